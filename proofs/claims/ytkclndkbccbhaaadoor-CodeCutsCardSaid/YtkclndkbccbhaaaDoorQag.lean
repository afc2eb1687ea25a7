/- Parts of the proof of Both: what the functions that it reaches compute, and plain facts about that. -/
import Derived.Test.YtkclndkbccbhaaaDoorQac
import Derived.Test.YtkclndkbccbhaaaDoorQad
import Derived.Test.YtkclndkbccbhaaaDoorQaf
import Derived.Lib.SplitLaws
import Derived.Lib.IndexMore
import Derived.Lib.SlTrimSet
import Derived.Lib.Join
set_option linter.unusedVariables false
set_option linter.unusedSimpArgs false
section
namespace Go.Proofs.YtkclndkbccbhaaaDoor.P
open Go.RowKit Go.Proofs.az.dw Go.Proofs.az.gB Go.Proofs.az.gX
attribute [local go_sem] pW pU su rZ oh nZ pV pR
theorem Vp (d:Nat) (w:World) (x0 y0:Int) (x1 y1:Int) (x2 y2:Int) (x3 y3:Int) (x4 y4:Int) :
    (Op.equalIn (d+2) 35 (.agg #[.int .u8 x0,.int .u8 x1,.int .u8 x2,.int .u8 x3,.int .i64 x4]) (.agg #[.int .u8 y0,.int .u8 y1,.int .u8 y2,.int .u8 y3,.int .i64 y4])).run Tryd.prog w=.ok (x0 == y0 && (x1 == y1 && (x2 == y2 && (x3 == y3 && (x4 == y4))))) w:=by
  refine acN Tryd.underlying35 (by kernel_rfl) ?_
  refine AX (by rfl) (by go_simp;rfl) (by go_simp;rfl) (by go_simp) ?_
  refine AX (by rfl) (by go_simp;rfl) (by go_simp;rfl) (by go_simp) ?_
  refine AX (by rfl) (by go_simp;rfl) (by go_simp;rfl) (by go_simp) ?_
  refine AX (by rfl) (by go_simp;rfl) (by go_simp;rfl) (by go_simp) ?_
  exact Vo (by rfl) (by go_simp;rfl) (by go_simp;rfl) (by go_simp)
end Go.Proofs.YtkclndkbccbhaaaDoor.P
end
section
namespace Go.Proofs.YtkclndkbccbhaaaDoor.P
open Go.RowKit Go.Proofs.az.dw Go.Proofs.az.gB Go.Proofs.az.gX
attribute [local go_sem] pW pU su rZ oh nZ pV pR
attribute [local go_sem high] Vp
mutual
def dK.l0:Nat→List (List ByteArray)→List ByteArray→Int→Int→Option ((List (List ByteArray)) × Int × Int)
  | 0,_,_,_,_=>none
  | k+1,x5,x15,x16,x17=>if x17 < x16 then (if 0≤x17 then (if x17 < (x15.length:Int) then ((strings_Cut.f (ja ByteArray.empty x15 x17) (⟨#[35]⟩:ByteArray)).bind fun akS=>((strings_Split.f akS.1 (⟨#[32]⟩:ByteArray)).bind fun t150=>(dK.l1 k x5 x17 ([]:List ByteArray) x15 x16 x17 t150 (t150.length:Int) 0))) else (none)) else (none)) else (some (x5,0,0))
def dK.l1:Nat→List (List ByteArray)→Int→List ByteArray→List ByteArray→Int→Int→List ByteArray→Int→Int→Option ((List (List ByteArray)) × Int × Int)
  | 0,_,_,_,_,_,_,_,_,_=>none
  | k+1,x5,x6,x8,x15,x16,x17,x29,x30,x31=>if x31 < x30 then (if 0≤x31 then (if x31 < (x29.length:Int) then (if (ja ByteArray.empty x29 x31).toList=([]:List UInt8) then (dK.l1 k x5 x6 x8 x15 x16 x17 x29 x30 (wrap64 (x31+1))) else ((sN.f (ja ByteArray.empty x29 x31)).bind fun t157=>(if t157=true then (if x8.length < 8796093022208 then (dK.l1 k x5 x6 (x8++[ja ByteArray.empty x29 x31]) x15 x16 x17 x29 x30 (wrap64 (x31+1))) else (none)) else (some (([]:List (List ByteArray)),wrap64 (x6+1),4))))) else (none)) else (none)) else (if (x8.length:Int) > 0 then (if x5.length < 5864062014805 then (dK.l0 k (x5++[x8]) x15 x16 (wrap64 (x17+1))) else (none)) else (dK.l0 k x5 x15 x16 (wrap64 (x17+1))))
end
def dK.f (k:Nat) (a0:ByteArray):Option ((List (List ByteArray)) × Int × Int):=if (a0.size:Int) > 20000 then (some (([]:List (List ByteArray)),0,3)) else ((strings_Split.f a0 (⟨#[10]⟩:ByteArray)).bind fun t143=>(dK.l0 k ([]:List (List ByteArray)) t143 (t143.length:Int) 0))
theorem dK.lX:∀ k,(∀ y0 y1 y2 y3,iw (dK.l0 k y0 y1 y2 y3) (dK.l0 (k+1) y0 y1 y2 y3))∧(∀ y0 y1 y2 y3 y4 y5 y6 y7 y8,iw (dK.l1 k y0 y1 y2 y3 y4 y5 y6 y7 y8) (dK.l1 (k+1) y0 y1 y2 y3 y4 y5 y6 y7 y8))
  | 0=>⟨fun _ _ _ _ r h=>by simp [dK.l0] at h,fun _ _ _ _ _ _ _ _ _ r h=>by simp [dK.l1] at h⟩
  | k+1=>by
    obtain ⟨qW,ih1⟩:=dK.lX k
    refine ⟨?_,?_⟩
    · intro y0 y1 y2 y3
      unfold dK.l0
      repeat' first
      | (with_reducible exact qW _ _ _ _)
      | (with_reducible exact ih1 _ _ _ _ _ _ _ _ _)
      | (with_reducible exact iw.refl _)
      | (with_reducible exact iw.none _)
      | (with_reducible refine iw.ite ?_ ?_)
      | (with_reducible refine iw.bind ?_ (fun _=>?_))
      | exact qW _ _ _ _
      | exact ih1 _ _ _ _ _ _ _ _ _
      | exact iw.none _
      | refine iw.ite ?_ ?_
      | refine iw.bind ?_ (fun _=>?_)
    · intro y0 y1 y2 y3 y4 y5 y6 y7 y8
      unfold dK.l1
      repeat' first
      | (with_reducible exact qW _ _ _ _)
      | (with_reducible exact ih1 _ _ _ _ _ _ _ _ _)
      | (with_reducible exact iw.refl _)
      | (with_reducible exact iw.none _)
      | (with_reducible refine iw.ite ?_ ?_)
      | (with_reducible refine iw.bind ?_ (fun _=>?_))
      | exact qW _ _ _ _
      | exact ih1 _ _ _ _ _ _ _ _ _
      | exact iw.none _
      | refine iw.ite ?_ ?_
      | refine iw.bind ?_ (fun _=>?_)
theorem dK.mono:∀ a0 k,iw (dK.f k a0) (dK.f (k+1) a0):=by
  intro a0 k
  obtain ⟨qW,ih1⟩:=dK.lX k
  unfold dK.f
  repeat' first
      | (with_reducible exact qW _ _ _ _)
      | (with_reducible exact ih1 _ _ _ _ _ _ _ _ _)
      | (with_reducible exact iw.refl _)
      | (with_reducible exact iw.none _)
      | (with_reducible refine iw.ite ?_ ?_)
      | (with_reducible refine iw.bind ?_ (fun _=>?_))
      | exact qW _ _ _ _
      | exact ih1 _ _ _ _ _ _ _ _ _
      | exact iw.none _
      | refine iw.ite ?_ ?_
      | refine iw.bind ?_ (fun _=>?_)
set_option maxHeartbeats 8000000 in
set_option maxRecDepth 100000 in
theorem dK.calls (k:Nat) (a0:ByteArray) (r1:List (List ByteArray)) (r2:Int) (r3:Int) (w:World) (kP:Kd.C xu w xw mX.length mX) (h:dK.f k a0=some (r1,r2,r3)) :
    Calls Tryd.prog 16 #[.string a0] w fun e w'=>∃ Oo:Value,e=.returned (.tuple #[Oo,.int .i64 r2,.int .i64 r3])∧Kd.S (Kd.slice 9 Kd.string) 22 w' w.heap.size (fun _=>True) Oo r1∧Below w.heap.size w w':=by
  have mM:=ah.mk kP
  clear kP
  have HB:=ah.mk (Below.refl w.heap.size w)
  have H:(if (a0.size:Int) > 20000 then (some (([]:List (List ByteArray)),0,3)) else ((strings_Split.f a0 (⟨#[10]⟩:ByteArray)).bind fun t143=>(dK.l0 k ([]:List (List ByteArray)) t143 (t143.length:Int) 0)))=some (r1,r2,r3):=h
  clear h
  by_cases c2:(a0.size:Int) > 20000
  · rw [if_pos c2] at H
    have JQ:decide (20000 < (a0.size:Int))=true:=decide_eq_true c2
    have JP:decide (20000 < a0.size)=true:=decide_eq_true (by omega)
    clear c2
    simp only [Option.some.injEq,Prod.mk.injEq] at H
    obtain ⟨rfl,rfl,rfl⟩:=H
    go_enter Tryd.func16,Tryd.ntmps16
    go_wp2
    go_ret3
    exact ⟨_,by first|rfl|(simp [bY,bW] <;> rfl)|(simp [*,bY,bW] <;> rfl),by first|exact Kd.MI _ _ _ _ _|exact Kd.MK _ _ _ _ _|exact Kd.MG _ _ _ _ _|exact Kd.MJ _ _ _ _ _|exact Kd.kX _ _ _ _ _,by repeat (first|(with_reducible first|exact HB.out|apply ak|apply ae|apply aj)|exact HB.out)⟩
  · rw [if_neg c2] at H
    have JQ:decide (20000 < (a0.size:Int))=false:=decide_eq_false c2
    have JP:decide (20000 < a0.size)=false:=decide_eq_false (by omega)
    clear c2
    replace H:=Option.bind_eq_some_iff.mp H
    obtain ⟨t143,F8,H⟩:=H
    replace H:(dK.l0 k ([]:List (List ByteArray)) t143 (t143.length:Int) 0)=some (r1,r2,r3):=H
    have A3:=ah.mk F8
    clear F8
    have H':=ah.mk H
    clear H
    go_enter Tryd.func16,Tryd.ntmps16
    go_wp2_with (first|((with_reducible refine bV (f:=29) rfl ?_);refine fF (some 15) rfl rfl Tryd.func29 (by kernel_rfl) rfl #[.string a0,.string (⟨#[10]⟩:ByteArray)] rfl (by (try simp only [List.map_toArray,List.map_cons,List.map_nil]);first|done|rfl|(simp only [List.length_drop,List.length_take];rfl)) ?_;(with_reducible refine (strings_Split.calls a0 (⟨#[10]⟩:ByteArray) t143 _ ?dN A3.out).mono ?_);(case dN=>repeat (first|exact mM.out|(with_reducible refine Kd.fJ ?_ _)|(with_reducible refine Kd.fH ?_ _)|(with_reducible refine Kd.gG ?_)));rintro e w4 ⟨avg,rfl,ho0,hb⟩;refine ⟨_,rfl,?_⟩;have dA:=ah.mk (Kd.dS ho0 (aA (by repeat (first|(with_reducible first|exact HB.out|apply ak|apply ae|apply aj)|exact HB.out))));have dC:=ah.mk (aT (by repeat (first|(with_reducible first|exact HB.out|apply ak|apply ae|apply aj)|exact HB.out)) hb);clear HB;have aby:=dA;have HB:=dC;clear dA dC;(try clear hb);(try clear hb2);(try clear hk);(try clear hi);(try clear ho0);obtain ⟨Ao5,Rz,eo5⟩:=Kd.dR aby.out;subst eo5))
    go_loopg [5,17] k (fun kq v5 v17 w'=>∃ (Ae:List (List ByteArray)) (kV:Int),v17=.int .i64 kV∧ah (dK.l0 kq Ae t143 (t143.length:Int) kV=some (r1,r2,r3))∧ah (kq≤k)∧ah (Kd.S (Kd.slice 9 Kd.string) 22 w' w.heap.size (fun k_=>some k_ ≠ ((.slice Ao5 t143.length Rz):Value).ownBlock) v5 Ae)∧ah (Kd.R Kd.string 9 w' w.heap.size (fun _=>True) (.slice Ao5 t143.length Rz) t143)∧ah (Below w.heap.size w w'))
    case atStart=>exact ⟨(([]:List (List ByteArray))),(0),(by first|rfl|(simp;done)|(simp [*];done)),H',⟨Nat.le_refl _⟩,⟨by first|exact Kd.MI _ _ _ _ _|exact Kd.MK _ _ _ _ _|exact Kd.MG _ _ _ _ _|exact Kd.MJ _ _ _ _ _|exact Kd.kX _ _ _ _ _⟩,⟨by (with_reducible repeat (first|apply Kd.aC|apply Kd.aG|apply Kd.aN));exact aby.out⟩,⟨by repeat (first|(with_reducible first|exact HB.out|apply ak|apply ae|apply aj)|exact HB.out)⟩⟩
    case round =>
      clear H'
      try clear c1
      try clear c2
      try clear JQ
      try clear JP
      try clear p2
      obtain ⟨Ae,kV,rfl,HA,CY,qQ,lN,HB⟩:=hrel
      cases gk with
      | zero=>exact absurd HA.out (by simp [dK.l0])
      | succ k1 =>
        have H:=HA.out
        clear HA
        simp only [dK.l0] at H
        by_cases c6:kV < (t143.length:Int)
        · rw [if_pos c6] at H
          have xy:decide (kV < (t143.length:Int))=true:=decide_eq_true c6
          clear c6
          by_cases c7:0≤kV
          · rw [if_pos c7] at H
            have BP:decide (0≤kV)=true:=decide_eq_true c7
            clear c7
            by_cases c8:kV < (t143.length:Int)
            · rw [if_pos c8] at H
              have FI:decide (kV < (t143.length:Int))=true:=decide_eq_true c8
              clear c8
              replace H:=Option.bind_eq_some_iff.mp H
              obtain ⟨⟨t147,t148,t149⟩,A90,H⟩:=H
              replace H:((strings_Split.f t147 (⟨#[32]⟩:ByteArray)).bind fun t150=>(dK.l1 k1 Ae kV ([]:List ByteArray) t143 (t143.length:Int) kV t150 (t150.length:Int) 0))=some (r1,r2,r3):=H
              have A9:=ah.mk A90
              clear A90
              replace H:=Option.bind_eq_some_iff.mp H
              obtain ⟨t150,alT,H⟩:=H
              replace H:(dK.l1 k1 Ae kV ([]:List ByteArray) t143 (t143.length:Int) kV t150 (t150.length:Int) 0)=some (r1,r2,r3):=H
              have A10:=ah.mk alT
              clear alT
              have H':=ah.mk H
              clear H
              have XD:0≤(kV:Int):=of_decide_eq_true (by first|(with_reducible assumption)|assumption)
              have XB:kV < (t143.length:Int):=of_decide_eq_true (by first|(with_reducible assumption)|assumption)
              obtain ⟨zH,arF,XO⟩:=Kd.iU (Kd.dF lN.out).2.2 kV XD XB
              cases arF
              replace XD:=eq_true XD
              replace XB:=eq_true XB
              go_wp2_with (first|((with_reducible refine bV (f:=30) rfl ?_);refine fF (some 24) rfl rfl Tryd.func30 (by kernel_rfl) rfl #[.string (ja ByteArray.empty t143 kV),.string (⟨#[35]⟩:ByteArray)] rfl (by (try simp only [List.map_toArray,List.map_cons,List.map_nil]);first|done|rfl|(simp only [List.length_drop,List.length_take];rfl)) ?_;(with_reducible refine (strings_Cut.calls (ja ByteArray.empty t143 kV) (⟨#[35]⟩:ByteArray) t147 t148 t149 _ ?dN A9.out).mono ?_);(case dN=>repeat (first|exact (Kd.dB mM.out HB.out)|(with_reducible refine Kd.fJ ?_ _)|(with_reducible refine Kd.fH ?_ _)|(with_reducible refine Kd.gG ?_)));rintro e w11 ⟨rfl,hb⟩;refine ⟨_,rfl,?_⟩;have dA:=ah.mk (Kd.zi (by (with_reducible repeat (first|apply Kd.nD|apply Kd.nC|apply Kd.qh));exact qQ.out) hb);have dC:=ah.mk (Kd.bu (by (with_reducible repeat (first|apply Kd.aC|apply Kd.aG|apply Kd.aN));exact lN.out) hb);have dP:=ah.mk (aT (by repeat (first|(with_reducible first|exact HB.out|apply ak|apply ae|apply aj)|exact HB.out)) hb);clear qQ;clear lN;clear HB;have qQ:=dA;have lN:=dC;have HB:=dP;clear dA dC dP;(try clear hb);(try clear hb2);(try clear hk);(try clear hi))|((with_reducible refine bV (f:=29) rfl ?_);refine fF (some 29) rfl rfl Tryd.func29 (by kernel_rfl) rfl #[.string t147,.string (⟨#[32]⟩:ByteArray)] rfl (by (try simp only [List.map_toArray,List.map_cons,List.map_nil]);first|done|rfl|(simp only [List.length_drop,List.length_take];rfl)) ?_;(with_reducible refine (strings_Split.calls t147 (⟨#[32]⟩:ByteArray) t150 _ ?dN A10.out).mono ?_);(case dN=>repeat (first|exact (Kd.dB mM.out HB.out)|(with_reducible refine Kd.fJ ?_ _)|(with_reducible refine Kd.fH ?_ _)|(with_reducible refine Kd.gG ?_)));rintro e w12 ⟨avf,rfl,ho0,hb⟩;refine ⟨_,rfl,?_⟩;have dA:=ah.mk (Kd.VY (by (with_reducible repeat (first|apply Kd.nD|apply Kd.nC|apply Kd.qh));exact qQ.out) (Kd.gV ho0) hb);have dC:=ah.mk (Kd.gz (by (with_reducible repeat (first|apply Kd.aC|apply Kd.aG|apply Kd.aN));exact lN.out) (Kd.gV ho0) hb);have dP:=ah.mk (Kd.dS (Kd.iW ho0 (Kd.lC (by (with_reducible repeat (first|apply Kd.aC|apply Kd.aG|apply Kd.aN));exact lN.out))) (aA (by repeat (first|(with_reducible first|exact HB.out|apply ak|apply ae|apply aj)|exact HB.out))));have eF:=ah.mk (aT (by repeat (first|(with_reducible first|exact HB.out|apply ak|apply ae|apply aj)|exact HB.out)) hb);clear qQ;clear lN;clear HB;have qQ:=dA;have lN:=dC;have abx:=dP;have HB:=eF;clear dA dC dP eF;(try clear hb);(try clear hb2);(try clear hk);(try clear hi);(try clear ho0);obtain ⟨Oc,Gm,arE⟩:=Kd.dR abx.out;subst arE))
              go_loopg [8,31] k1 (fun kq v8 v31 w'=>∃ (vz:List ByteArray) (jW:Int),v31=.int .i64 jW∧ah (dK.l1 kq Ae kV vz t143 (t143.length:Int) kV t150 (t150.length:Int) jW=some (r1,r2,r3))∧ah (kq≤k1)∧ah (Kd.S (Kd.slice 9 Kd.string) 22 w' w.heap.size (fun k_=>some k_ ≠ (v8:Value).ownBlock∧some k_ ≠ ((.slice (some zH) t143.length Rz):Value).ownBlock∧some k_ ≠ ((.slice Oc t150.length Gm):Value).ownBlock) u5 Ae)∧ah (Kd.R Kd.string 9 w' w.heap.size (fun k_=>some k_ ≠ ((.slice (some zH) t143.length Rz):Value).ownBlock∧some k_ ≠ ((.slice Oc t150.length Gm):Value).ownBlock) v8 vz)∧ah (Kd.R Kd.string 9 w' w.heap.size (fun k_=>some k_ ≠ (v8:Value).ownBlock∧some k_ ≠ ((.slice Oc t150.length Gm):Value).ownBlock) (.slice (some zH) t143.length Rz) t143)∧ah (Kd.R Kd.string 9 w' w.heap.size (fun k_=>some k_ ≠ (v8:Value).ownBlock∧some k_ ≠ ((.slice (some zH) t143.length Rz):Value).ownBlock) (.slice Oc t150.length Gm) t150)∧ah (Below w.heap.size w w'))
              case atStart=>exact ⟨(([]:List ByteArray)),(0),(by first|rfl|(simp;done)|(simp [*];done)),H',⟨Nat.le_refl _⟩,⟨by (with_reducible repeat (first|apply Kd.nD|apply Kd.nC|apply Kd.qh));exact Kd.yu qQ.out (fun _ hk=>⟨(by simp [Value.ownBlock]),⟨hk.1,hk.2⟩⟩)⟩,⟨by first|exact Kd.kX _ _ _ _ _|exact Kd.MK _ _ _ _ _|exact Kd.MG _ _ _ _ _|exact Kd.MJ _ _ _ _ _|exact Kd.MI _ _ _ _ _⟩,⟨by (with_reducible repeat (first|apply Kd.aC|apply Kd.aG|apply Kd.aN));exact Kd.bP lN.out (fun _ hk=>⟨(by simp [Value.ownBlock]),hk.2⟩)⟩,⟨by (with_reducible repeat (first|apply Kd.aC|apply Kd.aG|apply Kd.aN));exact Kd.bP abx.out (fun _ hk=>⟨(by simp [Value.ownBlock]),hk.2⟩)⟩,⟨by repeat (first|(with_reducible first|exact HB.out|apply ak|apply ae|apply aj)|exact HB.out)⟩⟩
              case round =>
                clear H'
                try clear c1
                try clear p1
                try clear q1
                try clear hx1
                try clear c2
                try clear JQ
                try clear JP
                try clear p2
                try clear c3
                try clear c6
                try clear xy
                try clear c7
                try clear BP
                try clear c8
                try clear FI
                try clear XO
                try clear XD
                try clear p2
                try clear XB
                obtain ⟨vz,jW,rfl,HA,F7,qQ,Bf,lN,ql,HB⟩:=hrel
                cases gk with
                | zero=>exact absurd HA.out (by simp [dK.l1])
                | succ k2 =>
                  have H:=HA.out
                  clear HA
                  simp only [dK.l1] at H
                  by_cases c14:jW < (t150.length:Int)
                  · rw [if_pos c14] at H
                    have zG:decide (jW < (t150.length:Int))=true:=decide_eq_true c14
                    clear c14
                    by_cases c15:0≤jW
                    · rw [if_pos c15] at H
                      have akO:decide (0≤jW)=true:=decide_eq_true c15
                      clear c15
                      by_cases c16:jW < (t150.length:Int)
                      · rw [if_pos c16] at H
                        have atW:decide (jW < (t150.length:Int))=true:=decide_eq_true c16
                        clear c16
                        by_cases c17:(ja ByteArray.empty t150 jW).toList=([]:List UInt8)
                        · rw [if_pos c17] at H
                          have VN:((ja ByteArray.empty t150 jW).toList == ([]:List UInt8))=true:=beq_iff_eq.mpr c17
                          have akN:((ja ByteArray.empty t150 jW).toList != ([]:List UInt8))=false:=bne_eq_false_iff_eq.mpr c17
                          clear c17
                          have H':=ah.mk H
                          clear H
                          have EY:0≤(jW:Int):=of_decide_eq_true (by first|(with_reducible assumption)|assumption)
                          have EX:jW < (t150.length:Int):=of_decide_eq_true (by first|(with_reducible assumption)|assumption)
                          obtain ⟨MF,Vu,OT⟩:=Kd.iU (Kd.dF ql.out).2.2 jW EY EX
                          cases Vu
                          replace EY:=eq_true EY
                          replace EX:=eq_true EX
                          go_wp2
                          go_roundg k2
                          case measure=>have:=CY.out;have:=F7.out;omega
                          case rel=>exact ⟨(vz),(wrap64 (jW+1)),(by first|rfl|(simp;done)|(simp [*];done)),H',⟨by have:=CY.out;have:=F7.out;omega⟩,⟨by (with_reducible repeat (first|apply Kd.nD|apply Kd.nC|apply Kd.qh));exact qQ.out⟩,⟨by (with_reducible repeat (first|apply Kd.aC|apply Kd.aG|apply Kd.aN));exact Bf.out⟩,⟨by (with_reducible repeat (first|apply Kd.aC|apply Kd.aG|apply Kd.aN));exact lN.out⟩,⟨by (with_reducible repeat (first|apply Kd.aC|apply Kd.aG|apply Kd.aN));exact ql.out⟩,⟨by repeat (first|(with_reducible first|exact HB.out|apply ak|apply ae|apply aj)|exact HB.out)⟩⟩
                        · rw [if_neg c17] at H
                          have VN:((ja ByteArray.empty t150 jW).toList == ([]:List UInt8))=false:=beq_eq_false_iff_ne.mpr c17
                          have akN:((ja ByteArray.empty t150 jW).toList != ([]:List UInt8))=true:=bne_iff_ne.mpr c17
                          replace H:=Option.bind_eq_some_iff.mp H
                          obtain ⟨t157,alQ,H⟩:=H
                          replace H:(if t157=true then (if vz.length < 8796093022208 then (dK.l1 k2 Ae kV (vz++[ja ByteArray.empty t150 jW]) t143 (t143.length:Int) kV t150 (t150.length:Int) (wrap64 (jW+1))) else (none)) else (some (([]:List (List ByteArray)),wrap64 (kV+1),4)))=some (r1,r2,r3):=H
                          have A18:=ah.mk alQ
                          clear alQ
                          by_cases c19:t157=true
                          · subst c19
                            have H1:(if vz.length < 8796093022208 then (dK.l1 k2 Ae kV (vz++[ja ByteArray.empty t150 jW]) t143 (t143.length:Int) kV t150 (t150.length:Int) (wrap64 (jW+1))) else (none))=some (r1,r2,r3):=by rw [if_pos rfl] at H;exact H
                            clear H
                            have H:=H1
                            clear H1
                            by_cases c20:vz.length < 8796093022208
                            · rw [if_pos c20] at H
                              have alc:=ah.mk c20
                              clear c20
                              obtain ⟨y158,hy158⟩:∃ y_:List ByteArray,y_=(vz++[ja ByteArray.empty t150 jW]):=⟨_,rfl⟩
                              replace H:(dK.l1 k2 Ae kV y158 t143 (t143.length:Int) kV t150 (t150.length:Int) (wrap64 (jW+1)))=some (r1,r2,r3):=by first|(rw [hy158];with_reducible exact H)|(have vk:=(Option.bind_some _ _).symm.trans H;rw [hy158];with_reducible exact vk)|(have vk:=(Option.bind_some _ _).symm.trans H;with_reducible exact vk)|with_reducible exact H|(rw [hy158];exact H)|exact H
                              have ak3:=ah.mk hy158
                              clear hy158
                              have H':=ah.mk H
                              clear H
                              have EY:0≤(jW:Int):=of_decide_eq_true (by first|(with_reducible assumption)|assumption)
                              have EX:jW < (t150.length:Int):=of_decide_eq_true (by first|(with_reducible assumption)|assumption)
                              obtain ⟨MF,Vu,OT⟩:=Kd.iU (Kd.dF ql.out).2.2 jW EY EX
                              cases Vu
                              replace EY:=eq_true EY
                              replace EX:=eq_true EX
                              go_wp2_with (first|((with_reducible refine bV (f:=31) rfl ?_);refine fF (some 40) rfl rfl Tryd.func31 (by kernel_rfl) rfl #[.string (ja ByteArray.empty t150 jW)] rfl (by (try simp only [List.map_toArray,List.map_cons,List.map_nil]);first|done|rfl|(simp only [List.length_drop,List.length_take];rfl)) ?_;(with_reducible refine (sN.calls (ja ByteArray.empty t150 jW) true _ A18.out).mono ?_);rintro e w21 ⟨rfl,hb⟩;refine ⟨_,rfl,?_⟩;have dA:=ah.mk (Kd.zi (by (with_reducible repeat (first|apply Kd.nD|apply Kd.nC|apply Kd.qh));exact qQ.out) hb);have dC:=ah.mk (Kd.bu (by (with_reducible repeat (first|apply Kd.aC|apply Kd.aG|apply Kd.aN));exact Bf.out) hb);have dP:=ah.mk (Kd.bu (by (with_reducible repeat (first|apply Kd.aC|apply Kd.aG|apply Kd.aN));exact lN.out) hb);have eF:=ah.mk (Kd.bu (by (with_reducible repeat (first|apply Kd.aC|apply Kd.aG|apply Kd.aN));exact ql.out) hb);have fK:=ah.mk (aT (by repeat (first|(with_reducible first|exact HB.out|apply ak|apply ae|apply aj)|exact HB.out)) hb);clear qQ;clear Bf;clear lN;clear ql;clear HB;have qQ:=dA;have Bf:=dC;have lN:=dP;have ql:=eF;have HB:=fK;clear dA dC dP eF fK;(try clear hb);(try clear hb2);(try clear hk);(try clear hi))|((with_reducible refine lH (b:=.append) (xs:=#[.tmp 44,.tmp 46]) rfl ?_);at_builtin;refine Kd.uf Kd.string (w0:=w) w.heap.size rfl (.tmp 44) (.tmp 46) 22 9 (.string ⟨#[]⟩) 16 rfl Tryd.underlying22 info9 rfl (by decide) (by omega) u8 vz (ja ByteArray.empty t150 jW) [.string (ja ByteArray.empty t150 jW)] (fun k_=>some k_ ≠ (.slice (some zH) t143.length Rz:Value).ownBlock∧some k_ ≠ (.slice (some MF) t150.length Gm:Value).ownBlock) (fun _=>False) rfl rfl ?aP (fun _ hk=>hk.elim) ?aF ?aO ?aB ?aS ?aL ?_;(case aP=>exact rfl);(case aB=>exact (by repeat (first|(with_reducible first|exact HB.out|apply ak|apply ae|apply aj)|exact HB.out)));(case aF=>exact (fun k_ hk=>⟨Kd.fresh' (Kd.lC (by (with_reducible repeat (first|apply Kd.aC|apply Kd.aG|apply Kd.aN));exact lN.out)) k_ hk,Kd.fresh' (Kd.lC (by (with_reducible repeat (first|apply Kd.aC|apply Kd.aG|apply Kd.aN));exact ql.out)) k_ hk⟩));(case aO=>exact (by (with_reducible repeat (first|apply Kd.aC|apply Kd.aG|apply Kd.aN));exact Bf.out));(case aS=>exact (aA (by repeat (first|(with_reducible first|exact HB.out|apply ak|apply ae|apply aj)|exact HB.out))));(case aL=>have:=alc.out;omega);intro v159 w22 ho hb hg hat;rw [← ak3.out] at ho;have dA:=ah.mk (Kd.aaC (ok:=(fun k_=>some k_ ≠ (.slice (some zH) t143.length Rz:Value).ownBlock∧some k_ ≠ (.slice (some MF) t150.length Gm:Value).ownBlock)) (by (with_reducible repeat (first|apply Kd.nD|apply Kd.nC|apply Kd.qh));exact Kd.yu qQ.out (fun _ hk=>⟨⟨hk.2.1,hk.2.2⟩,hk.1⟩)) hg hat);have dC:=ah.mk (Kd.JV (ok:=(fun k_=>some k_ ≠ (.slice (some MF) t150.length Gm:Value).ownBlock)) (by (with_reducible repeat (first|apply Kd.aC|apply Kd.aG|apply Kd.aN));exact Kd.bP lN.out (fun _ hk=>⟨hk.2,hk.1⟩)) hg hat);have dP:=ah.mk (Kd.JV (ok:=(fun k_=>some k_ ≠ (.slice (some zH) t143.length Rz:Value).ownBlock)) (by (with_reducible repeat (first|apply Kd.aC|apply Kd.aG|apply Kd.aN));exact Kd.bP ql.out (fun _ hk=>⟨hk.2,hk.1⟩)) hg hat);have eF:=ah.mk (hb);have fK:=ah.mk (ho);clear qQ;clear lN;clear ql;clear HB;clear Bf;have qQ:=dA;have lN:=dC;have ql:=dP;have HB:=eF;have alj:=fK;clear dA dC dP eF fK;clear ho hb hg hat))
                              go_roundg k2
                              case measure=>have:=CY.out;have:=F7.out;omega
                              case rel=>exact ⟨(y158),(wrap64 (jW+1)),(by first|rfl|(simp;done)|(simp [*];done)),H',⟨by have:=CY.out;have:=F7.out;omega⟩,⟨by (with_reducible repeat (first|apply Kd.nD|apply Kd.nC|apply Kd.qh));exact Kd.yu qQ.out (fun _ hk=>⟨hk.2,⟨hk.1.1,hk.1.2⟩⟩)⟩,⟨by (with_reducible repeat (first|apply Kd.aC|apply Kd.aG|apply Kd.aN));exact alj.out⟩,⟨by (with_reducible repeat (first|apply Kd.aC|apply Kd.aG|apply Kd.aN));exact Kd.bP lN.out (fun _ hk=>⟨hk.2,hk.1⟩)⟩,⟨by (with_reducible repeat (first|apply Kd.aC|apply Kd.aG|apply Kd.aN));exact Kd.bP ql.out (fun _ hk=>⟨hk.2,hk.1⟩)⟩,⟨by repeat (first|(with_reducible first|exact HB.out|apply ak|apply ae|apply aj)|exact HB.out)⟩⟩
                            · rw [if_neg c20] at H
                              exact absurd H (by simp)
                          · replace c19:=Bool.eq_false_iff.mpr c19
                            subst c19
                            have H1:(some (([]:List (List ByteArray)),wrap64 (kV+1),4))=some (r1,r2,r3):=by rw [if_neg (show ¬ (false=true) by decide)] at H;exact H
                            clear H
                            have H:=H1
                            clear H1
                            simp only [Option.some.injEq,Prod.mk.injEq] at H
                            obtain ⟨rfl,rfl,rfl⟩:=H
                            have EY:0≤(jW:Int):=of_decide_eq_true (by first|(with_reducible assumption)|assumption)
                            have EX:jW < (t150.length:Int):=of_decide_eq_true (by first|(with_reducible assumption)|assumption)
                            obtain ⟨MF,Vu,OT⟩:=Kd.iU (Kd.dF ql.out).2.2 jW EY EX
                            cases Vu
                            replace EY:=eq_true EY
                            replace EX:=eq_true EX
                            go_wp2_with (first|((with_reducible refine bV (f:=31) rfl ?_);refine fF (some 40) rfl rfl Tryd.func31 (by kernel_rfl) rfl #[.string (ja ByteArray.empty t150 jW)] rfl (by (try simp only [List.map_toArray,List.map_cons,List.map_nil]);first|done|rfl|(simp only [List.length_drop,List.length_take];rfl)) ?_;(with_reducible refine (sN.calls (ja ByteArray.empty t150 jW) false _ A18.out).mono ?_);rintro e Ry ⟨rfl,hb⟩;refine ⟨_,rfl,?_⟩;have dA:=ah.mk (Kd.zi (by (with_reducible repeat (first|apply Kd.nD|apply Kd.nC|apply Kd.qh));exact qQ.out) hb);have dC:=ah.mk (Kd.bu (by (with_reducible repeat (first|apply Kd.aC|apply Kd.aG|apply Kd.aN));exact Bf.out) hb);have dP:=ah.mk (Kd.bu (by (with_reducible repeat (first|apply Kd.aC|apply Kd.aG|apply Kd.aN));exact lN.out) hb);have eF:=ah.mk (Kd.bu (by (with_reducible repeat (first|apply Kd.aC|apply Kd.aG|apply Kd.aN));exact ql.out) hb);have fK:=ah.mk (aT (by repeat (first|(with_reducible first|exact HB.out|apply ak|apply ae|apply aj)|exact HB.out)) hb);clear qQ;clear Bf;clear lN;clear ql;clear HB;have qQ:=dA;have Bf:=dC;have lN:=dP;have ql:=eF;have HB:=fK;clear dA dC dP eF fK;(try clear hb);(try clear hb2);(try clear hk);(try clear hi)))
                            go_ret3
                            exact ⟨_,by first|rfl|(simp [bY,bW] <;> rfl)|(simp [*,bY,bW] <;> rfl),by first|exact Kd.MI _ _ _ _ _|exact Kd.MK _ _ _ _ _|exact Kd.MG _ _ _ _ _|exact Kd.MJ _ _ _ _ _|exact Kd.kX _ _ _ _ _,by repeat (first|(with_reducible first|exact HB.out|apply ak|apply ae|apply aj)|exact HB.out)⟩
                      · rw [if_neg c16] at H
                        exact absurd H (by simp)
                    · rw [if_neg c15] at H
                      exact absurd H (by simp)
                  · rw [if_neg c14] at H
                    have zG:decide (jW < (t150.length:Int))=false:=decide_eq_false c14
                    clear c14
                    by_cases c24:(vz.length:Int) > 0
                    · rw [if_pos c24] at H
                      have Qg:decide (0 < (vz.length:Int))=true:=decide_eq_true c24
                      have abl:decide (0 < vz.length)=true:=decide_eq_true (by omega)
                      clear c24
                      by_cases c25:Ae.length < 5864062014805
                      · rw [if_pos c25] at H
                        have alb:=ah.mk c25
                        clear c25
                        obtain ⟨y153,hy153⟩:∃ y_:List (List ByteArray),y_=(Ae++[vz]):=⟨_,rfl⟩
                        replace H:(dK.l0 k2 y153 t143 (t143.length:Int) (wrap64 (kV+1)))=some (r1,r2,r3):=by first|(rw [hy153];with_reducible exact H)|(have vk:=(Option.bind_some _ _).symm.trans H;rw [hy153];with_reducible exact vk)|(have vk:=(Option.bind_some _ _).symm.trans H;with_reducible exact vk)|with_reducible exact H|(rw [hy153];exact H)|exact H
                        have ak4:=ah.mk hy153
                        clear hy153
                        have H':=ah.mk H
                        clear H
                        obtain ⟨WN,VH,aak⟩:=Kd.dR Bf.out
                        subst aak
                        go_wp2_with (first|((with_reducible refine lH (b:=.append) (xs:=#[.tmp 52,.tmp 54]) rfl ?_);at_builtin;refine Kd.VZ (Kd.slice 9 Kd.string) (w0:=w) w.heap.size rfl (.tmp 52) (.tmp 54) 37 22 (.slice none 0 0) 24 rfl Tryd.underlying37 info22 rfl (by decide) (by omega) u5 Ae vz [.slice WN vz.length VH] (fun k_=>some k_ ≠ (.slice (some zH) t143.length Rz:Value).ownBlock∧some k_ ≠ (.slice Oc t150.length Gm:Value).ownBlock) (fun k_=>some k_=(.slice WN vz.length VH:Value).ownBlock) rfl rfl ?aP (fun k_ hk_=>((Kd.bP (ok':=fun k_=>((fun k_=>some k_ ≠ (.slice (some zH) t143.length Rz:Value).ownBlock∧some k_ ≠ (.slice Oc t150.length Gm:Value).ownBlock)) k_∧some k_ ≠ (u5:Value).ownBlock) (Kd.oL (Bf.out) (Kd.EF qQ.out) (by decide)) (fun k_ hk=>⟨⟨hk.1.1,hk.1.2⟩,hk.2⟩))).1 k_ hk_.symm) ?aF ?aO ?aB ?aS ?aL ?_;(case aP=>exact Kd.ak9 (Kd.bP (Kd.Qm rfl (Kd.bP (ok':=fun k_=>((fun k_=>some k_ ≠ (.slice (some zH) t143.length Rz:Value).ownBlock∧some k_ ≠ (.slice Oc t150.length Gm:Value).ownBlock)) k_∧some k_ ≠ (u5:Value).ownBlock) (Kd.oL (Bf.out) (Kd.EF qQ.out) (by decide)) (fun k_ hk=>⟨⟨hk.1.1,hk.1.2⟩,hk.2⟩))) (fun _ h_=>h_)));(case aB=>exact (by repeat (first|(with_reducible first|exact HB.out|apply ak|apply ae|apply aj)|exact HB.out)));(case aF=>exact (fun k_ hk=>⟨Kd.fresh' (Kd.lC (by (with_reducible repeat (first|apply Kd.aC|apply Kd.aG|apply Kd.aN));exact lN.out)) k_ hk,Kd.fresh' (Kd.lC (by (with_reducible repeat (first|apply Kd.aC|apply Kd.aG|apply Kd.aN));exact ql.out)) k_ hk⟩));(case aO=>exact (by (with_reducible repeat (first|apply Kd.nD|apply Kd.nC|apply Kd.qh));exact Kd.yu qQ.out (fun k_ hk=>⟨⟨hk.2.1,hk.2.2⟩,fun e_=>hk.1 e_⟩)));(case aS=>exact (aA (by repeat (first|(with_reducible first|exact HB.out|apply ak|apply ae|apply aj)|exact HB.out))));(case aL=>have:=alb.out;omega);intro v154 w27 ho hb hg hat;rw [← ak4.out] at ho;have dA:=ah.mk (Kd.EG (by (with_reducible repeat (first|apply Kd.aC|apply Kd.aG|apply Kd.aN));exact lN.out) (Kd.EF (by (with_reducible repeat (first|apply Kd.nD|apply Kd.nC|apply Kd.qh));exact qQ.out)) (by decide) hg);have dC:=ah.mk (Kd.EG (by (with_reducible repeat (first|apply Kd.aC|apply Kd.aG|apply Kd.aN));exact ql.out) (Kd.EF (by (with_reducible repeat (first|apply Kd.nD|apply Kd.nC|apply Kd.qh));exact qQ.out)) (by decide) hg);have dP:=ah.mk (hb);have eF:=ah.mk (ho);clear lN;clear ql;clear HB;clear qQ;clear Bf;have lN:=dA;have ql:=dC;have HB:=dP;have alk:=eF;clear dA dC dP eF;clear ho hb hg hat))
                        go_roundg k2
                        case measure=>have:=CY.out;have:=F7.out;omega
                        case rel=>exact ⟨(y153),(wrap64 (kV+1)),(by first|rfl|(simp;done)|(simp [*];done)),H',⟨by have:=CY.out;have:=F7.out;omega⟩,⟨by (with_reducible repeat (first|apply Kd.nD|apply Kd.nC|apply Kd.qh));exact Kd.yu alk.out (fun _ hk=>hk.1)⟩,⟨by (with_reducible repeat (first|apply Kd.aC|apply Kd.aG|apply Kd.aN));exact Kd.bP lN.out (fun _ hk=>trivial)⟩,⟨by repeat (first|(with_reducible first|exact HB.out|apply ak|apply ae|apply aj)|exact HB.out)⟩⟩
                      · rw [if_neg c25] at H
                        exact absurd H (by simp)
                    · rw [if_neg c24] at H
                      have Qg:decide (0 < (vz.length:Int))=false:=decide_eq_false c24
                      have abl:decide (0 < vz.length)=false:=decide_eq_false (by omega)
                      clear c24
                      have H':=ah.mk H
                      clear H
                      obtain ⟨avT,avF,ary⟩:=Kd.dR Bf.out
                      subst ary
                      go_wp2
                      go_roundg k2
                      case measure=>have:=CY.out;have:=F7.out;omega
                      case rel=>exact ⟨(Ae),(wrap64 (kV+1)),(by first|rfl|(simp;done)|(simp [*];done)),H',⟨by have:=CY.out;have:=F7.out;omega⟩,⟨by (with_reducible repeat (first|apply Kd.nD|apply Kd.nC|apply Kd.qh));exact Kd.yu qQ.out (fun _ hk=>hk.2.1)⟩,⟨by (with_reducible repeat (first|apply Kd.aC|apply Kd.aG|apply Kd.aN));exact Kd.bP lN.out (fun _ hk=>trivial)⟩,⟨by repeat (first|(with_reducible first|exact HB.out|apply ak|apply ae|apply aj)|exact HB.out)⟩⟩
            · rw [if_neg c8] at H
              exact absurd H (by simp)
          · rw [if_neg c7] at H
            exact absurd H (by simp)
        · rw [if_neg c6] at H
          have xy:decide (kV < (t143.length:Int))=false:=decide_eq_false c6
          clear c6
          simp only [Option.some.injEq,Prod.mk.injEq] at H
          obtain ⟨rfl,rfl,rfl⟩:=H
          go_wp2
          go_ret3
          exact ⟨_,by first|rfl|(simp [bY,bW] <;> rfl)|(simp [*,bY,bW] <;> rfl),by (with_reducible repeat (first|apply Kd.nD|apply Kd.nC|apply Kd.qh));exact Kd.yu qQ.out (fun _ hk=>trivial),by repeat (first|(with_reducible first|exact HB.out|apply ak|apply ae|apply aj)|exact HB.out)⟩
def stringslite_HasSuffix.f (a0:ByteArray) (a1:ByteArray):Option (Bool):=if (a0.size:Int) ≥ (a1.size:Int) then (if 0≤(wrap64 ((a0.size:Int) - (a1.size:Int))) then (if (wrap64 ((a0.size:Int) - (a1.size:Int)))≤(a0.size:Int) then (some ((a0.extract ((wrap64 ((a0.size:Int) - (a1.size:Int))):Int).toNat a0.size).toList == a1.toList)) else (none)) else (none)) else (some false)
set_option maxHeartbeats 8000000 in
set_option maxRecDepth 100000 in
theorem stringslite_HasSuffix.calls (a0:ByteArray) (a1:ByteArray) (r:Bool) (w:World) (h:stringslite_HasSuffix.f a0 a1=some r) :
    Calls Tryd.prog 41 #[.string a0,.string a1] w fun e w'=>e=.returned (.bool r)∧kJ w w':=by
  have H:(if (a0.size:Int) ≥ (a1.size:Int) then (if 0≤(wrap64 ((a0.size:Int) - (a1.size:Int))) then (if (wrap64 ((a0.size:Int) - (a1.size:Int)))≤(a0.size:Int) then (some ((a0.extract ((wrap64 ((a0.size:Int) - (a1.size:Int))):Int).toNat a0.size).toList == a1.toList)) else (none)) else (none)) else (some false))=some r:=h
  clear h
  by_cases c3:(a0.size:Int) ≥ (a1.size:Int)
  · rw [if_pos c3] at H
    have arP:decide ((a1.size:Int)≤(a0.size:Int))=true:=decide_eq_true c3
    have arO:decide (a1.size≤a0.size)=true:=decide_eq_true (Int.ofNat_le.mp c3)
    clear c3
    obtain ⟨ji4,XQ⟩:∃ j_:Int,(wrap64 ((a0.size:Int) - (a1.size:Int)))=j_:=⟨_,rfl⟩
    replace H:(if 0≤(ji4) then (if (ji4)≤(a0.size:Int) then (some ((a0.extract ((ji4):Int).toNat a0.size).toList == a1.toList)) else (none)) else (none))=some r:=by first|(rw [XQ] at H;exact H)|(simp only [XQ] at H ⊢;exact H)
    have atw:(IntKind.i64.wrap ((a0.size:Int) - (a1.size:Int)))=ji4:=(bJ _).trans XQ
    by_cases c5:0≤(ji4)
    · rw [if_pos c5] at H
      have VK:=eq_true c5
      have akF:decide (0≤(ji4))=true:=decide_eq_true c5
      clear c5
      by_cases c6:(ji4)≤(a0.size:Int)
      · rw [if_pos c6] at H
        have xy:=eq_true c6
        have L8:decide ((ji4)≤(a0.size:Int))=true:=decide_eq_true c6
        clear c6
        obtain rfl:=Option.some.inj H
        go_enter Tryd.func41,Tryd.ntmps41
        go_wp2
        go_ret
        exact ⟨by first|rfl|(simp;done)|(simp only [← XQ] <;> (first|rfl|simp))|(simp [*];done),by repeat (first|exact kJ.refl _|apply kJ.step)⟩
      · rw [if_neg c6] at H
        exact absurd H (by simp)
    · rw [if_neg c5] at H
      exact absurd H (by simp)
  · rw [if_neg c3] at H
    have arP:decide ((a1.size:Int)≤(a0.size:Int))=false:=decide_eq_false c3
    have arO:decide (a1.size≤a0.size)=false:=decide_eq_false (fun h=>c3 (Int.ofNat_le.mpr h))
    clear c3
    obtain rfl:=Option.some.inj H
    go_enter Tryd.func41,Tryd.ntmps41
    go_wp2
    go_ret
    exact ⟨by first|rfl|(simp;done)|(simp [*];done),by repeat (first|exact kJ.refl _|apply kJ.step)⟩
def stringslite_TrimSuffix.f (a0:ByteArray) (a1:ByteArray):Option (ByteArray):=(stringslite_HasSuffix.f a0 a1).bind fun t173=>(if t173=true then (if 0≤(wrap64 ((a0.size:Int) - (a1.size:Int))) then (if (wrap64 ((a0.size:Int) - (a1.size:Int)))≤(a0.size:Int) then (some (a0.extract 0 ((wrap64 ((a0.size:Int) - (a1.size:Int))):Int).toNat)) else (none)) else (none)) else (some a0))
set_option maxHeartbeats 8000000 in
set_option maxRecDepth 100000 in
theorem stringslite_TrimSuffix.calls (a0:ByteArray) (a1:ByteArray) (r:ByteArray) (w:World) (h:stringslite_TrimSuffix.f a0 a1=some r) :
    Calls Tryd.prog 32 #[.string a0,.string a1] w fun e w'=>e=.returned (.string r)∧kJ w w':=by
  have H:((stringslite_HasSuffix.f a0 a1).bind fun t173=>(if t173=true then (if 0≤(wrap64 ((a0.size:Int) - (a1.size:Int))) then (if (wrap64 ((a0.size:Int) - (a1.size:Int)))≤(a0.size:Int) then (some (a0.extract 0 ((wrap64 ((a0.size:Int) - (a1.size:Int))):Int).toNat)) else (none)) else (none)) else (some a0)))=some r:=h
  clear h
  replace H:=Option.bind_eq_some_iff.mp H
  obtain ⟨t173,F8,H⟩:=H
  replace H:(if t173=true then (if 0≤(wrap64 ((a0.size:Int) - (a1.size:Int))) then (if (wrap64 ((a0.size:Int) - (a1.size:Int)))≤(a0.size:Int) then (some (a0.extract 0 ((wrap64 ((a0.size:Int) - (a1.size:Int))):Int).toNat)) else (none)) else (none)) else (some a0))=some r:=H
  have A3:=ah.mk F8
  clear F8
  by_cases c4:t173=true
  · subst c4
    have H1:(if 0≤(wrap64 ((a0.size:Int) - (a1.size:Int))) then (if (wrap64 ((a0.size:Int) - (a1.size:Int)))≤(a0.size:Int) then (some (a0.extract 0 ((wrap64 ((a0.size:Int) - (a1.size:Int))):Int).toNat)) else (none)) else (none))=some r:=by rw [if_pos rfl] at H;exact H
    clear H
    have H:=H1
    clear H1
    obtain ⟨ji5,TF⟩:∃ j_:Int,(wrap64 ((a0.size:Int) - (a1.size:Int)))=j_:=⟨_,rfl⟩
    replace H:(if 0≤(ji5) then (if (ji5)≤(a0.size:Int) then (some (a0.extract 0 ((ji5):Int).toNat)) else (none)) else (none))=some r:=by first|(rw [TF] at H;exact H)|(simp only [TF] at H ⊢;exact H)
    (try rw [TF] at A3)
    have atv:(IntKind.i64.wrap ((a0.size:Int) - (a1.size:Int)))=ji5:=(bJ _).trans TF
    by_cases c6:0≤(ji5)
    · rw [if_pos c6] at H
      have xy:=eq_true c6
      have L8:decide (0≤(ji5))=true:=decide_eq_true c6
      clear c6
      by_cases c7:(ji5)≤(a0.size:Int)
      · rw [if_pos c7] at H
        have BP:=eq_true c7
        have JO:decide ((ji5)≤(a0.size:Int))=true:=decide_eq_true c7
        clear c7
        obtain rfl:=Option.some.inj H
        go_enter Tryd.func32,Tryd.ntmps32
        go_wp2_with (first|((with_reducible refine bV (f:=41) rfl ?_);refine fF (some 7) rfl rfl Tryd.func41 (by kernel_rfl) rfl #[.string a0,.string a1] rfl (by (try simp only [List.map_toArray,List.map_cons,List.map_nil]);first|done|rfl|(simp only [List.length_drop,List.length_take];rfl)) ?_;(with_reducible refine (stringslite_HasSuffix.calls a0 a1 true _ A3.out).mono ?_);rintro e w' ⟨rfl,⟨nd,rfl⟩⟩;refine ⟨_,rfl,?_⟩))
        go_ret
        exact ⟨by first|rfl|(simp;done)|(simp only [← TF] <;> (first|rfl|simp))|(simp [*];done),by repeat (first|exact kJ.refl _|apply kJ.step)⟩
      · rw [if_neg c7] at H
        exact absurd H (by simp)
    · rw [if_neg c6] at H
      exact absurd H (by simp)
  · replace c4:=Bool.eq_false_iff.mpr c4
    subst c4
    have H1:(some a0)=some r:=by rw [if_neg (show ¬ (false=true) by decide)] at H;exact H
    clear H
    have H:=H1
    clear H1
    obtain rfl:=Option.some.inj H
    go_enter Tryd.func32,Tryd.ntmps32
    go_wp2_with (first|((with_reducible refine bV (f:=41) rfl ?_);refine fF (some 7) rfl rfl Tryd.func41 (by kernel_rfl) rfl #[.string a0,.string a1] rfl (by (try simp only [List.map_toArray,List.map_cons,List.map_nil]);first|done|rfl|(simp only [List.length_drop,List.length_take];rfl)) ?_;(with_reducible refine (stringslite_HasSuffix.calls a0 a1 false _ A3.out).mono ?_);rintro e w' ⟨rfl,⟨nd,rfl⟩⟩;refine ⟨_,rfl,?_⟩))
    go_ret
    exact ⟨by first|rfl|(simp;done)|(simp [*];done),by repeat (first|exact kJ.refl _|apply kJ.step)⟩
def strings_TrimSuffix.f (a0:ByteArray) (a1:ByteArray):Option (ByteArray):=(stringslite_TrimSuffix.f a0 a1).bind fun t174=>(some t174)
set_option maxHeartbeats 8000000 in
set_option maxRecDepth 100000 in
theorem strings_TrimSuffix.calls (a0:ByteArray) (a1:ByteArray) (r:ByteArray) (w:World) (h:strings_TrimSuffix.f a0 a1=some r) :
    Calls Tryd.prog 19 #[.string a0,.string a1] w fun e w'=>e=.returned (.string r)∧kJ w w':=by
  have H:((stringslite_TrimSuffix.f a0 a1).bind fun t174=>(some t174))=some r:=h
  clear h
  replace H:=Option.bind_eq_some_iff.mp H
  obtain ⟨t174,F8,H⟩:=H
  replace H:(some t174)=some r:=H
  have A3:=ah.mk F8
  clear F8
  obtain rfl:=Option.some.inj H
  go_enter Tryd.func19,Tryd.ntmps19
  go_wp2_with (first|((with_reducible refine bV (f:=32) rfl ?_);refine fF (some 7) rfl rfl Tryd.func32 (by kernel_rfl) rfl #[.string a0,.string a1] rfl (by (try simp only [List.map_toArray,List.map_cons,List.map_nil]);first|done|rfl|(simp only [List.length_drop,List.length_take];rfl)) ?_;(with_reducible refine (stringslite_TrimSuffix.calls a0 a1 t174 _ A3.out).mono ?_);rintro e w' ⟨rfl,⟨nd,rfl⟩⟩;refine ⟨_,rfl,?_⟩))
  go_ret
  exact ⟨by first|rfl|(simp;done)|(simp [*];done),by repeat (first|exact kJ.refl _|apply kJ.step)⟩
end Go.Proofs.YtkclndkbccbhaaaDoor.P
end
section
namespace Go.Proofs.YtkclndkbccbhaaaDoor.P
open Go
def uq (c:UInt8):List UInt8→List (List UInt8)
  | []=>[[]]
  | x :: xs=>if x=c then [] :: uq c xs else (x :: (uq c xs).headD []) :: (uq c xs).tail
theorem Ie (c:UInt8) (l:List UInt8):uq c l ≠ []:=by
  cases l with
  | nil=>simp [uq]
  | cons x xs=>unfold uq;split <;> simp
theorem QS {α:Type} {a b:List α} (d:α) (h:a ≠ []):(a++b).headD d=a.headD d:=by
  cases a with
  | nil=>exact absurd rfl h
  | cons x xs=>rfl
theorem RZ {α:Type} {a b:List α} (h:a ≠ []):(a++b).tail=a.tail++b:=by
  cases a with
  | nil=>exact absurd rfl h
  | cons x xs=>rfl
theorem DL (c:UInt8) (a b:List UInt8):uq c (a++c :: b)=uq c a++uq c b:=by
  induction a with
  | nil=>simp [uq]
  | cons x xs ih =>
    simp only [List.cons_append,uq]
    by_cases h:x=c
    · rw [if_pos h,if_pos h,ih];rfl
    · rw [if_neg h,if_neg h,ih,QS _ (Ie c xs),RZ (Ie c xs)];rfl
theorem sS (c:UInt8) {l:List UInt8} (h:c ∉ l):uq c l=[l]:=by
  induction l with
  | nil=>rfl
  | cons x xs ih =>
    simp only [List.mem_cons,not_or] at h
    unfold uq
    rw [if_neg (fun e=>h.1 e.symm),ih h.2]
    rfl
theorem Nc (c:UInt8) (l:List UInt8):(uq c l).length=l.count c+1:=by
  induction l with
  | nil=>rfl
  | cons x xs ih =>
    unfold uq
    by_cases h:x=c
    · rw [if_pos h,h,List.count_cons_self];simp [ih]
    · have h1:0 < (uq c xs).length:=List.length_pos_iff.2 (Ie c xs)
      rw [if_neg h,List.count_cons_of_ne h]
      simp only [List.length_cons,List.length_tail]
      omega
theorem parted {α:Type} [DecidableEq α] (c:α) (l:List α):c ∉ l ∨ ∃ a b,l=a++c :: b∧c ∉ a:=by
  induction l with
  | nil=>exact .inl (by simp)
  | cons x xs ih =>
    by_cases e:x=c
    · subst e
      exact .inr ⟨[],xs,rfl,by simp⟩
    · rcases ih with h|⟨a,b,h,ha⟩
      · exact .inl (by simp only [List.mem_cons,not_or];exact ⟨fun e'=>e e'.symm,h⟩)
      · exact .inr ⟨x :: a,b,by rw [h];rfl,by simp only [List.mem_cons,not_or];exact ⟨fun e'=>e e'.symm,ha⟩⟩
theorem xK {c:UInt8} {l:List UInt8} (h:c ∉ l):Lib.indexByte l c=-1:=by
  induction l with
  | nil=>rfl
  | cons x xs ih =>
    simp only [List.mem_cons,not_or] at h
    unfold Lib.indexByte
    rw [if_neg (by simp;exact fun e=>h.1 e.symm),ih h.2]
    rfl
theorem AQ {c:UInt8} {a b:List UInt8} (h:c ∉ a):Lib.indexByte (a++c :: b) c=a.length:=by
  induction a with
  | nil=>simp [Lib.indexByte]
  | cons x xs ih =>
    simp only [List.mem_cons,not_or] at h
    simp only [List.cons_append]
    unfold Lib.indexByte
    rw [if_neg (by simp;exact fun e=>h.1 e.symm),ih h.2,if_neg (by simp)]
    simp
theorem zC {p:UInt8→Bool} {l:List UInt8} (h:∀ x ∈ l,p x=true):l.takeWhile p=l:=by
  induction l with
  | nil=>rfl
  | cons x xs ih=>rw [List.takeWhile_cons,if_pos (h x (by simp)),ih (fun y hy=>h y (by simp [hy]))]
theorem EO (c:UInt8):∀ (k:Nat) (l:List UInt8),l.count c≤k→Lib.splitK [c] 0 k l=uq c l
  | 0,l,h=>by
    have hc:c ∉ l:=List.count_eq_zero.1 (by omega)
    rw [sS c hc]
    rfl
  | k+1,l,h=>by
    unfold Lib.splitK
    rw [Lib.index_one]
    rcases parted c l with hc|⟨a,b,rfl,ha⟩
    · rw [xK hc,sS c hc]
      rfl
    · rw [AQ ha,if_neg (by simp),DL,sS c ha]
      have hk:b.count c≤k:=by
        rw [List.count_append,List.count_cons_self] at h
        omega
      have e1:(a++c :: b).take ((a.length:Int).toNat+0)=a:=by simp
      have e2:(a++c :: b).drop ((a.length:Int).toNat + [c].length)=b:=by
        rw [Int.toNat_natCast]
        simp [List.drop_append]
      rw [e1,e2,EO c k b hk]
      rfl
theorem aan (c:UInt8) (l:List UInt8):(Lib.cut l [c]).1=l.takeWhile (· ≠ c):=by
  unfold Lib.cut
  rw [Lib.index_one]
  rcases parted c l with hc|⟨a,b,rfl,ha⟩
  · rw [xK hc,if_neg (by omega)]
    symm
    refine zC fun x hx=>?_
    simp only [ne_eq,decide_eq_true_eq]
    rintro rfl
    exact hc hx
  · rw [AQ ha,if_pos (by omega),Int.toNat_natCast]
    have h1:∀ x ∈ a,(decide (x ≠ c))=true:=by
      intro x hx
      simp only [ne_eq,decide_eq_true_eq]
      rintro rfl
      exact ha hx
    rw [List.takeWhile_append_of_pos h1]
    simp
theorem dropWhile_nil {p:UInt8→Bool} {l:List UInt8}:l.dropWhile p=[] ↔ ∀ x ∈ l,p x=true:=by
  induction l with
  | nil=>simp
  | cons x xs ih =>
    rw [List.dropWhile_cons]
    by_cases h:p x=true
    · rw [if_pos h,ih];simp [h]
    · rw [if_neg h];simp [h]
theorem Dv {p:UInt8→Bool} {l:List UInt8} {x:UInt8} {xs:List UInt8} (h:l.dropWhile p=x :: xs):¬ p x=true:=by
  induction l with
  | nil=>cases h
  | cons y ys ih =>
    rw [List.dropWhile_cons] at h
    by_cases e:p y=true
    · rw [if_pos e] at h;exact ih h
    · rw [if_neg e] at h
      injection h with h1 h2
      subst h1
      exact e
theorem Bz {l cs:List UInt8}:Lib.trimS l cs=[] ↔ ∀ x ∈ l,cs.contains x=true:=by
  unfold Lib.trimS Lib.trimLeftS Lib.trimRightS
  rw [dropWhile_nil]
  constructor
  · intro h
    cases hd:l.reverse.dropWhile (cs.contains ·) with
    | nil =>
      intro x hx
      exact dropWhile_nil.1 hd x (by simp [hx])
    | cons y ys =>
      exact absurd (h y (by rw [hd];simp)) (Dv hd)
  · intro h
    have:l.reverse.dropWhile (cs.contains ·)=[]:=dropWhile_nil.2 fun x hx=>h x (by simpa using hx)
    rw [this]
    simp
def okc (b:UInt8):Bool:=decide (97≤b.toNat∧b.toNat≤122) || decide (48≤b.toNat∧b.toNat≤57) || decide (b.toNat=45)
def F6 (w:List UInt8):Bool:=decide (w.length≤30) && w.all okc
def toks (l:List UInt8):List (List UInt8):=(uq 32 (l.takeWhile (· ≠ 35))).filter (· ≠ [])
def keep (t:List (List UInt8)):List (List (List UInt8)):=if t=[] then [] else [t]
def okL (x:List UInt8):Bool:=(toks x).all F6
def rW (xs:List (List UInt8)):List (List (List UInt8)):=xs.flatMap fun x=>keep (toks x)
def LR:Nat→List (List (List UInt8))→List (List UInt8)→List (List (List UInt8)) × Nat × Nat
  | _,acc,[]=>(acc,0,0)
  | n,acc,x :: r=>if okL x then LR (n+1) (acc++keep (toks x)) r else ([],n+1,4)
theorem Wi {xs:List (List UInt8)} (h:∀ x ∈ xs,okL x=true) (n:Nat) (acc:List (List (List UInt8))) (ys:List (List UInt8)):LR n acc (xs++ys)=LR (n+xs.length) (acc++rW xs) ys:=by
  induction xs generalizing n acc with
  | nil=>simp [rW]
  | cons x xs ih =>
    simp only [List.cons_append,LR]
    rw [if_pos (h x (by simp)),ih (fun y hy=>h y (by simp [hy]))]
    simp only [List.length_cons,rW,List.flatMap_cons,List.append_assoc]
    rw [show n+1+xs.length=n+(xs.length+1) from by omega]
theorem aaG {xs:List (List UInt8)} (h:∀ x ∈ xs,okL x=true) (n:Nat) (acc:List (List (List UInt8))):LR n acc xs=(acc++rW xs,0,0):=by
  have:=Wi h n acc []
  rw [List.append_nil] at this
  rw [this]
  rfl
def plainW (w:List UInt8):Prop:=w ≠ []∧(32:UInt8) ∉ w∧(35:UInt8) ∉ w
theorem QL {ws:List (List UInt8)} (h:∀ w ∈ ws,plainW w):(35:UInt8) ∉ Lib.join ws [32]:=by
  cases ws with
  | nil=>simp [Lib.join_nil]
  | cons w r =>
    rw [Lib.join_cons]
    unfold Lib.joinTail
    simp only [List.mem_append,List.mem_flatten,List.mem_map,not_or,not_exists,not_and]
    refine ⟨(h w (by simp)).2.2,?_⟩
    rintro x ⟨y,hy,rfl⟩
    simp only [List.cons_append,List.nil_append,List.mem_cons,not_or]
    exact ⟨by decide,(h y (by simp [hy])).2.2⟩
theorem Sj {ws:List (List UInt8)} (h:∀ w ∈ ws,(32:UInt8) ∉ w) (w:List UInt8) (hw:(32:UInt8) ∉ w):uq 32 (w++Lib.joinTail [32] ws)=w :: ws:=by
  induction ws generalizing w with
  | nil=>simp [Lib.joinTail,sS 32 hw]
  | cons x xs ih =>
    have e:w++Lib.joinTail [32] (x :: xs)=w++32 :: (x++Lib.joinTail [32] xs):=by simp [Lib.joinTail]
    rw [e,DL,sS 32 hw,ih (fun y hy=>h y (by simp [hy])) x (h x (by simp))]
    rfl
theorem EM {l:List UInt8} (h:(35:UInt8) ∉ l):l.takeWhile (· ≠ 35)=l:=by
  refine zC fun x hx=>?_
  simp only [ne_eq,decide_eq_true_eq]
  rintro rfl
  exact h hx
theorem BA {ws:List (List UInt8)} (h:∀ w ∈ ws,plainW w):toks (Lib.join ws [32])=ws:=by
  unfold toks
  rw [EM (QL h)]
  cases ws with
  | nil=>rfl
  | cons w r =>
    rw [Lib.join_cons,Sj (fun y hy=>(h y (by simp [hy])).2.1) w (h w (by simp)).2.1,List.filter_eq_self]
    intro x hx
    simpa using (h x hx).1
theorem NL {b:UInt8} (h:okc b=true):b ≠ 10∧b ≠ 32∧b ≠ 35:=by
  refine ⟨?_,?_,?_⟩ <;> (rintro rfl;exact absurd h (by decide))
theorem sG {w:List UInt8} (h:F6 w=true) (h0:w ≠ []):plainW w∧(10:UInt8) ∉ w:=by
  simp only [F6,Bool.and_eq_true,List.all_eq_true] at h
  exact ⟨⟨h0,fun hm=>(NL (h.2 _ hm)).2.1 rfl,fun hm=>(NL (h.2 _ hm)).2.2 rfl⟩,fun hm=>(NL (h.2 _ hm)).1 rfl⟩
theorem Il {ws:List (List UInt8)} (h:∀ w ∈ ws,(10:UInt8) ∉ w):(10:UInt8) ∉ Lib.join ws [32]:=by
  cases ws with
  | nil=>simp [Lib.join_nil]
  | cons w r =>
    rw [Lib.join_cons]
    unfold Lib.joinTail
    simp only [List.mem_append,List.mem_flatten,List.mem_map,not_or,not_exists,not_and]
    refine ⟨h w (by simp),?_⟩
    rintro x ⟨y,hy,rfl⟩
    simp only [List.cons_append,List.nil_append,List.mem_cons,not_or]
    exact ⟨by decide,h y (by simp [hy])⟩
def joinL (L:List (List (List UInt8))):List UInt8:=(L.map fun ws=>Lib.join ws [32]++[10]).flatten
theorem QA {L:List (List (List UInt8))} (h:∀ ws ∈ L,∀ w ∈ ws,(10:UInt8) ∉ w):uq 10 (joinL L)=L.map (fun ws=>Lib.join ws [32])++[[]]:=by
  induction L with
  | nil=>rfl
  | cons x xs ih =>
    have e:joinL (x :: xs)=Lib.join x [32]++10 :: joinL xs:=by simp [joinL]
    rw [e,DL,sS 10 (Il (h x (by simp))),ih (fun y hy=>h y (by simp [hy]))]
    rfl
theorem Wh {L:List (List (List UInt8))} (h0:∀ ws ∈ L,ws ≠ []) (h:∀ ws ∈ L,∀ w ∈ ws,F6 w=true∧w ≠ []):LR 0 [] (uq 10 (joinL L))=(L,0,0):=by
  have hp:∀ ws ∈ L,∀ w ∈ ws,plainW w:=fun ws hs w hw=>(sG (h ws hs w hw).1 (h ws hs w hw).2).1
  have ht:∀ ws ∈ L,toks (Lib.join ws [32])=ws:=fun ws hs=>BA (hp ws hs)
  rw [QA (fun ws hs w hw=>(sG (h ws hs w hw).1 (h ws hs w hw).2).2),Wi]
  · have e:rW (L.map fun ws=>Lib.join ws [32])=L:=by
      have:∀ M:List (List (List UInt8)),(∀ ws ∈ M,ws ≠ []∧toks (Lib.join ws [32])=ws)→rW (M.map fun ws=>Lib.join ws [32])=M:=by
        intro M hM
        induction M with
        | nil=>rfl
        | cons x xs ih =>
          have hx:=hM x (by simp)
          have hi:=ih (fun y hy=>hM y (by simp [hy]))
          unfold rW at hi ⊢
          rw [List.map_cons,List.flatMap_cons,hi,hx.2]
          unfold keep
          rw [if_neg hx.1]
          rfl
      exact this L fun ws hs=>⟨h0 ws hs,ht ws hs⟩
    rw [e]
    simp [LR,okL,toks,uq,keep]
  · intro x hx
    obtain ⟨ws,hs,rfl⟩:=List.mem_map.1 hx
    unfold okL
    rw [ht ws hs,List.all_eq_true]
    exact fun w hw=>(h ws hs w hw).1
theorem Ik (ws:List (List UInt8)):(Lib.joinTail [32] ws).length=(ws.map fun w=>w.length+1).sum:=by
  induction ws with
  | nil=>rfl
  | cons w r ih =>
    have:Lib.joinTail [32] (w :: r)=32 :: w++Lib.joinTail [32] r:=by simp [Lib.joinTail]
    rw [this]
    simp only [List.length_append,List.length_cons,List.map_cons,List.sum_cons,ih]
theorem Xm (c:UInt8) (l:List UInt8):((uq c l).map fun w=>w.length+1).sum=l.length+1:=by
  induction l with
  | nil=>rfl
  | cons x xs ih =>
    unfold uq
    split
    · simp only [List.map_cons,List.sum_cons,ih,List.length_nil,List.length_cons];omega
    · cases hs:uq c xs with
      | nil=>exact absurd hs (Ie c xs)
      | cons y ys =>
        rw [hs] at ih
        simp only [List.headD_cons,List.tail_cons,List.map_cons,List.sum_cons,List.length_cons] at ih ⊢
        omega
end Go.Proofs.YtkclndkbccbhaaaDoor.P
end
