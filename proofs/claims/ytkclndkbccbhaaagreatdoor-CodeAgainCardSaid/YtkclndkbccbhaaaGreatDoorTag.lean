/- Parts of the proof of CodeAgain: what the functions that it reaches compute, and plain facts about that. -/
import Derived.Test.YtkclndkbccbhaaaGreatDoorTac
import Derived.Test.YtkclndkbccbhaaaGreatDoorTad
import Derived.Test.YtkclndkbccbhaaaGreatDoorTaf
import Derived.Lib.SplitLaws
import Derived.Lib.IndexMore
import Derived.Lib.SlTrimSet
import Derived.Lib.Join
set_option linter.unusedVariables false
set_option linter.unusedSimpArgs false
section
namespace Go.Proofs.YtkclndkbccbhaaaGreatDoor.P
open Go.RowKit Go.Proofs.ae.bg Go.Proofs.ae.dw Go.Proofs.ae.dO
attribute [local go_sem] jv jq jW jV iQ iP jr jo
theorem IE (d:Nat) (w:World) (x0 y0:Int) (x1 y1:Int) (x2 y2:Int) (x3 y3:Int) (x4 y4:Int) :
    (Op.equalIn (d+2) 27 (.agg #[.int .u8 x0,.int .u8 x1,.int .u8 x2,.int .u8 x3,.int .i64 x4]) (.agg #[.int .u8 y0,.int .u8 y1,.int .u8 y2,.int .u8 y3,.int .i64 y4])).run Tryz.prog w=.ok (x0 == y0 && (x1 == y1 && (x2 == y2 && (x3 == y3 && (x4 == y4))))) w:=by
  refine Uw Tryz.underlying27 (by kernel_rfl) ?_
  refine wK (by rfl) (by go_simp;rfl) (by go_simp;rfl) (by go_simp) ?_
  refine wK (by rfl) (by go_simp;rfl) (by go_simp;rfl) (by go_simp) ?_
  refine wK (by rfl) (by go_simp;rfl) (by go_simp;rfl) (by go_simp) ?_
  refine wK (by rfl) (by go_simp;rfl) (by go_simp;rfl) (by go_simp) ?_
  exact NJ (by rfl) (by go_simp;rfl) (by go_simp;rfl) (by go_simp)
end Go.Proofs.YtkclndkbccbhaaaGreatDoor.P
end
section
namespace Go.Proofs.YtkclndkbccbhaaaGreatDoor.P
open Go.RowKit Go.Proofs.ae.bg Go.Proofs.ae.dw Go.Proofs.ae.dO
attribute [local go_sem] jv jq jW jV iQ iP jr jo
attribute [local go_sem high] IE
mutual
def bG.l0:Nat→List (List ByteArray)→List ByteArray→Int→Int→Option ((List (List ByteArray)) × Int × Int)
  | 0,_,_,_,_=>none
  | k+1,x5,x15,x16,x17=>if x17 < x16 then (if 0≤x17 then (if x17 < (x15.length:Int) then ((strings_Cut.f (eX ByteArray.empty x15 x17) (⟨#[35]⟩:ByteArray)).bind fun Wh=>((strings_Split.f Wh.1 (⟨#[32]⟩:ByteArray)).bind fun t150=>(bG.l1 k x5 x17 ([]:List ByteArray) x15 x16 x17 t150 (t150.length:Int) 0))) else (none)) else (none)) else (some (x5,0,0))
def bG.l1:Nat→List (List ByteArray)→Int→List ByteArray→List ByteArray→Int→Int→List ByteArray→Int→Int→Option ((List (List ByteArray)) × Int × Int)
  | 0,_,_,_,_,_,_,_,_,_=>none
  | k+1,x5,x6,x8,x15,x16,x17,x29,x30,x31=>if x31 < x30 then (if 0≤x31 then (if x31 < (x29.length:Int) then (if (eX ByteArray.empty x29 x31).toList=([]:List UInt8) then (bG.l1 k x5 x6 x8 x15 x16 x17 x29 x30 (wrap64 (x31+1))) else ((pI.f (eX ByteArray.empty x29 x31)).bind fun t157=>(if t157=true then (if x8.length < 8796093022208 then (bG.l1 k x5 x6 (x8++[eX ByteArray.empty x29 x31]) x15 x16 x17 x29 x30 (wrap64 (x31+1))) else (none)) else (some (([]:List (List ByteArray)),wrap64 (x6+1),4))))) else (none)) else (none)) else (if (x8.length:Int) > 0 then (if x5.length < 5864062014805 then (bG.l0 k (x5++[x8]) x15 x16 (wrap64 (x17+1))) else (none)) else (bG.l0 k x5 x15 x16 (wrap64 (x17+1))))
end
def bG.f (k:Nat) (a0:ByteArray):Option ((List (List ByteArray)) × Int × Int):=if (a0.size:Int) > 20000 then (some (([]:List (List ByteArray)),0,3)) else ((strings_Split.f a0 (⟨#[10]⟩:ByteArray)).bind fun t143=>(bG.l0 k ([]:List (List ByteArray)) t143 (t143.length:Int) 0))
theorem bG.fC:∀ k,(∀ y0 y1 y2 y3,bV (bG.l0 k y0 y1 y2 y3) (bG.l0 (k+1) y0 y1 y2 y3))∧(∀ y0 y1 y2 y3 y4 y5 y6 y7 y8,bV (bG.l1 k y0 y1 y2 y3 y4 y5 y6 y7 y8) (bG.l1 (k+1) y0 y1 y2 y3 y4 y5 y6 y7 y8))
  | 0=>⟨fun _ _ _ _ r h=>by simp [bG.l0] at h,fun _ _ _ _ _ _ _ _ _ r h=>by simp [bG.l1] at h⟩
  | k+1=>by
    obtain ⟨iU,ih1⟩:=bG.fC k
    refine ⟨?_,?_⟩
    · intro y0 y1 y2 y3
      unfold bG.l0
      repeat' first
      | (with_reducible exact iU _ _ _ _)
      | (with_reducible exact ih1 _ _ _ _ _ _ _ _ _)
      | (with_reducible exact bV.refl _)
      | (with_reducible exact bV.none _)
      | (with_reducible refine bV.ite ?_ ?_)
      | (with_reducible refine bV.bind ?_ (fun _=>?_))
      | exact iU _ _ _ _
      | exact ih1 _ _ _ _ _ _ _ _ _
      | exact bV.none _
      | refine bV.ite ?_ ?_
      | refine bV.bind ?_ (fun _=>?_)
    · intro y0 y1 y2 y3 y4 y5 y6 y7 y8
      unfold bG.l1
      repeat' first
      | (with_reducible exact iU _ _ _ _)
      | (with_reducible exact ih1 _ _ _ _ _ _ _ _ _)
      | (with_reducible exact bV.refl _)
      | (with_reducible exact bV.none _)
      | (with_reducible refine bV.ite ?_ ?_)
      | (with_reducible refine bV.bind ?_ (fun _=>?_))
      | exact iU _ _ _ _
      | exact ih1 _ _ _ _ _ _ _ _ _
      | exact bV.none _
      | refine bV.ite ?_ ?_
      | refine bV.bind ?_ (fun _=>?_)
theorem bG.mono:∀ a0 k,bV (bG.f k a0) (bG.f (k+1) a0):=by
  intro a0 k
  obtain ⟨iU,ih1⟩:=bG.fC k
  unfold bG.f
  repeat' first
      | (with_reducible exact iU _ _ _ _)
      | (with_reducible exact ih1 _ _ _ _ _ _ _ _ _)
      | (with_reducible exact bV.refl _)
      | (with_reducible exact bV.none _)
      | (with_reducible refine bV.ite ?_ ?_)
      | (with_reducible refine bV.bind ?_ (fun _=>?_))
      | exact iU _ _ _ _
      | exact ih1 _ _ _ _ _ _ _ _ _
      | exact bV.none _
      | refine bV.ite ?_ ?_
      | refine bV.bind ?_ (fun _=>?_)
set_option maxHeartbeats 8000000 in
set_option maxRecDepth 100000 in
theorem bG.calls (k:Nat) (a0:ByteArray) (r1:List (List ByteArray)) (r2:Int) (r3:Int) (w:World) (jm:Kd.C tC w tH lH.length lH) (h:bG.f k a0=some (r1,r2,r3)) :
    Calls Tryz.prog 29 #[.string a0] w fun e w'=>∃ AZ:Value,e=.returned (.tuple #[AZ,.int .i64 r2,.int .i64 r3])∧Kd.S (Kd.slice 9 Kd.string) 22 w' w.heap.size (fun _=>True) AZ r1∧Below w.heap.size w w':=by
  have qJ:=af.mk jm
  clear jm
  have HB:=af.mk (Below.refl w.heap.size w)
  have H:(if (a0.size:Int) > 20000 then (some (([]:List (List ByteArray)),0,3)) else ((strings_Split.f a0 (⟨#[10]⟩:ByteArray)).bind fun t143=>(bG.l0 k ([]:List (List ByteArray)) t143 (t143.length:Int) 0)))=some (r1,r2,r3):=h
  clear h
  by_cases c2:(a0.size:Int) > 20000
  · rw [if_pos c2] at H
    have sV:decide (20000 < (a0.size:Int))=true:=decide_eq_true c2
    have zW:decide (20000 < a0.size)=true:=decide_eq_true (by omega)
    clear c2
    simp only [Option.some.injEq,Prod.mk.injEq] at H
    obtain ⟨rfl,rfl,rfl⟩:=H
    go_enter Tryz.func29,Tryz.ntmps29
    go_wp2
    go_ret3
    exact ⟨_,by first|rfl|(simp [bF,bD] <;> rfl)|(simp [*,bF,bD] <;> rfl),by first|exact Kd.wY _ _ _ _ _|exact Kd.xe _ _ _ _ _|exact Kd.wX _ _ _ _ _|exact Kd.wZ _ _ _ _ _|exact Kd.je _ _ _ _ _,by repeat (first|(with_reducible first|exact HB.out|apply ai|apply ag|apply ah)|exact HB.out)⟩
  · rw [if_neg c2] at H
    have sV:decide (20000 < (a0.size:Int))=false:=decide_eq_false c2
    have zW:decide (20000 < a0.size)=false:=decide_eq_false (by omega)
    clear c2
    replace H:=Option.bind_eq_some_iff.mp H
    obtain ⟨t143,FN,H⟩:=H
    replace H:(bG.l0 k ([]:List (List ByteArray)) t143 (t143.length:Int) 0)=some (r1,r2,r3):=H
    have A3:=af.mk FN
    clear FN
    have H':=af.mk H
    clear H
    go_enter Tryz.func29,Tryz.ntmps29
    go_wp2_with (first|((with_reducible refine bJ (f:=49) rfl ?_);refine fD (some 15) rfl rfl Tryz.func49 (by kernel_rfl) rfl #[.string a0,.string (⟨#[10]⟩:ByteArray)] rfl (by (try simp only [List.map_toArray,List.map_cons,List.map_nil]);first|done|rfl|(simp only [List.length_drop,List.length_take];rfl)) ?_;(with_reducible refine (strings_Split.calls a0 (⟨#[10]⟩:ByteArray) t143 _ ?dS A3.out).mono ?_);(case dS=>repeat (first|exact qJ.out|(with_reducible refine Kd.eu ?_ _)|(with_reducible refine Kd.ed ?_ _)|(with_reducible refine Kd.fQ ?_)));rintro e w4 ⟨afB,rfl,ho0,hb⟩;refine ⟨_,rfl,?_⟩;have dE:=af.mk (Kd.eQ ho0 (aY (by repeat (first|(with_reducible first|exact HB.out|apply ai|apply ag|apply ah)|exact HB.out))));have dL:=af.mk (aX (by repeat (first|(with_reducible first|exact HB.out|apply ai|apply ag|apply ah)|exact HB.out)) hb);clear HB;have Tt:=dE;have HB:=dL;clear dE dL;(try clear hb);(try clear hb2);(try clear hk);(try clear hi);(try clear ho0);obtain ⟨Ao5,Ky,eo5⟩:=Kd.dY Tt.out;subst eo5))
    go_loopg [5,17] k (fun kq v5 v17 w'=>∃ (fE:List (List ByteArray)) (jA:Int),v17=.int .i64 jA∧af (bG.l0 kq fE t143 (t143.length:Int) jA=some (r1,r2,r3))∧af (kq≤k)∧af (Kd.S (Kd.slice 9 Kd.string) 22 w' w.heap.size (fun k_=>some k_ ≠ ((.slice Ao5 t143.length Ky):Value).ownBlock) v5 fE)∧af (Kd.R Kd.string 9 w' w.heap.size (fun _=>True) (.slice Ao5 t143.length Ky) t143)∧af (Below w.heap.size w w'))
    case atStart=>exact ⟨(([]:List (List ByteArray))),(0),(by first|rfl|(simp;done)|(simp [*];done)),H',⟨Nat.le_refl _⟩,⟨by first|exact Kd.wY _ _ _ _ _|exact Kd.xe _ _ _ _ _|exact Kd.wX _ _ _ _ _|exact Kd.wZ _ _ _ _ _|exact Kd.je _ _ _ _ _⟩,⟨by (with_reducible repeat (first|apply Kd.aT|apply Kd.aV|apply Kd.bu));exact Tt.out⟩,⟨by repeat (first|(with_reducible first|exact HB.out|apply ai|apply ag|apply ah)|exact HB.out)⟩⟩
    case round =>
      clear H'
      try clear c2
      try clear sV
      try clear zW
      try clear p2
      try clear c4
      obtain ⟨fE,jA,rfl,HA,nV,jS,jU,HB⟩:=hrel
      cases gk with
      | zero=>exact absurd HA.out (by simp [bG.l0])
      | succ k1 =>
        have H:=HA.out
        clear HA
        simp only [bG.l0] at H
        by_cases c6:jA < (t143.length:Int)
        · rw [if_pos c6] at H
          have qR:decide (jA < (t143.length:Int))=true:=decide_eq_true c6
          clear c6
          by_cases c7:0≤jA
          · rw [if_pos c7] at H
            have xJ:decide (0≤jA)=true:=decide_eq_true c7
            clear c7
            by_cases c8:jA < (t143.length:Int)
            · rw [if_pos c8] at H
              have AA:decide (jA < (t143.length:Int))=true:=decide_eq_true c8
              clear c8
              replace H:=Option.bind_eq_some_iff.mp H
              obtain ⟨⟨t147,t148,t149⟩,XE,H⟩:=H
              replace H:((strings_Split.f t147 (⟨#[32]⟩:ByteArray)).bind fun t150=>(bG.l1 k1 fE jA ([]:List ByteArray) t143 (t143.length:Int) jA t150 (t150.length:Int) 0))=some (r1,r2,r3):=H
              have A9:=af.mk XE
              clear XE
              replace H:=Option.bind_eq_some_iff.mp H
              obtain ⟨t150,OC,H⟩:=H
              replace H:(bG.l1 k1 fE jA ([]:List ByteArray) t143 (t143.length:Int) jA t150 (t150.length:Int) 0)=some (r1,r2,r3):=H
              have RP:=af.mk OC
              clear OC
              have H':=af.mk H
              clear H
              have Po:0≤(jA:Int):=of_decide_eq_true (by first|(with_reducible assumption)|assumption)
              have Pm:jA < (t143.length:Int):=of_decide_eq_true (by first|(with_reducible assumption)|assumption)
              obtain ⟨vk,adz,PO⟩:=Kd.fG (Kd.dK jU.out).2.2 jA Po Pm
              cases adz
              replace Po:=eq_true Po
              replace Pm:=eq_true Pm
              go_wp2_with (first|((with_reducible refine bJ (f:=50) rfl ?_);refine fD (some 24) rfl rfl Tryz.func50 (by kernel_rfl) rfl #[.string (eX ByteArray.empty t143 jA),.string (⟨#[35]⟩:ByteArray)] rfl (by (try simp only [List.map_toArray,List.map_cons,List.map_nil]);first|done|rfl|(simp only [List.length_drop,List.length_take];rfl)) ?_;(with_reducible refine (strings_Cut.calls (eX ByteArray.empty t143 jA) (⟨#[35]⟩:ByteArray) t147 t148 t149 _ ?dS A9.out).mono ?_);(case dS=>repeat (first|exact (Kd.dU qJ.out HB.out)|(with_reducible refine Kd.eu ?_ _)|(with_reducible refine Kd.ed ?_ _)|(with_reducible refine Kd.fQ ?_)));rintro e w11 ⟨rfl,hb⟩;refine ⟨_,rfl,?_⟩;have dE:=af.mk (Kd.kW (by (with_reducible repeat (first|apply Kd.fB|apply Kd.fA|apply Kd.gu));exact jS.out) hb);have dL:=af.mk (Kd.cu (by (with_reducible repeat (first|apply Kd.aT|apply Kd.aV|apply Kd.bu));exact jU.out) hb);have eF:=af.mk (aX (by repeat (first|(with_reducible first|exact HB.out|apply ai|apply ag|apply ah)|exact HB.out)) hb);clear jS;clear jU;clear HB;have jS:=dE;have jU:=dL;have HB:=eF;clear dE dL eF;(try clear hb);(try clear hb2);(try clear hk);(try clear hi))|((with_reducible refine bJ (f:=49) rfl ?_);refine fD (some 29) rfl rfl Tryz.func49 (by kernel_rfl) rfl #[.string t147,.string (⟨#[32]⟩:ByteArray)] rfl (by (try simp only [List.map_toArray,List.map_cons,List.map_nil]);first|done|rfl|(simp only [List.length_drop,List.length_take];rfl)) ?_;(with_reducible refine (strings_Split.calls t147 (⟨#[32]⟩:ByteArray) t150 _ ?dS RP.out).mono ?_);(case dS=>repeat (first|exact (Kd.dU qJ.out HB.out)|(with_reducible refine Kd.eu ?_ _)|(with_reducible refine Kd.ed ?_ _)|(with_reducible refine Kd.fQ ?_)));rintro e w12 ⟨afA,rfl,ho0,hb⟩;refine ⟨_,rfl,?_⟩;have dE:=af.mk (Kd.qU (by (with_reducible repeat (first|apply Kd.fB|apply Kd.fA|apply Kd.gu));exact jS.out) (Kd.iM ho0) hb);have dL:=af.mk (Kd.jG (by (with_reducible repeat (first|apply Kd.aT|apply Kd.aV|apply Kd.bu));exact jU.out) (Kd.iM ho0) hb);have eF:=af.mk (Kd.eQ (Kd.mJ ho0 (Kd.qc (by (with_reducible repeat (first|apply Kd.aT|apply Kd.aV|apply Kd.bu));exact jU.out))) (aY (by repeat (first|(with_reducible first|exact HB.out|apply ai|apply ag|apply ah)|exact HB.out))));have fO:=af.mk (aX (by repeat (first|(with_reducible first|exact HB.out|apply ai|apply ag|apply ah)|exact HB.out)) hb);clear jS;clear jU;clear HB;have jS:=dE;have jU:=dL;have Tq:=eF;have HB:=fO;clear dE dL eF fO;(try clear hb);(try clear hb2);(try clear hk);(try clear hi);(try clear ho0);obtain ⟨GV,Az,adr⟩:=Kd.dY Tq.out;subst adr))
              go_loopg [8,31] k1 (fun kq v8 v31 w'=>∃ (qL:List ByteArray) (iV:Int),v31=.int .i64 iV∧af (bG.l1 kq fE jA qL t143 (t143.length:Int) jA t150 (t150.length:Int) iV=some (r1,r2,r3))∧af (kq≤k1)∧af (Kd.S (Kd.slice 9 Kd.string) 22 w' w.heap.size (fun k_=>some k_ ≠ (v8:Value).ownBlock∧some k_ ≠ ((.slice (some vk) t143.length Ky):Value).ownBlock∧some k_ ≠ ((.slice GV t150.length Az):Value).ownBlock) u5 fE)∧af (Kd.R Kd.string 9 w' w.heap.size (fun k_=>some k_ ≠ ((.slice (some vk) t143.length Ky):Value).ownBlock∧some k_ ≠ ((.slice GV t150.length Az):Value).ownBlock) v8 qL)∧af (Kd.R Kd.string 9 w' w.heap.size (fun k_=>some k_ ≠ (v8:Value).ownBlock∧some k_ ≠ ((.slice GV t150.length Az):Value).ownBlock) (.slice (some vk) t143.length Ky) t143)∧af (Kd.R Kd.string 9 w' w.heap.size (fun k_=>some k_ ≠ (v8:Value).ownBlock∧some k_ ≠ ((.slice (some vk) t143.length Ky):Value).ownBlock) (.slice GV t150.length Az) t150)∧af (Below w.heap.size w w'))
              case atStart=>exact ⟨(([]:List ByteArray)),(0),(by first|rfl|(simp;done)|(simp [*];done)),H',⟨Nat.le_refl _⟩,⟨by (with_reducible repeat (first|apply Kd.fB|apply Kd.fA|apply Kd.gu));exact Kd.mG jS.out (fun _ hk=>⟨(by simp [Value.ownBlock]),⟨hk.1,hk.2⟩⟩)⟩,⟨by first|exact Kd.je _ _ _ _ _|exact Kd.xe _ _ _ _ _|exact Kd.wX _ _ _ _ _|exact Kd.wZ _ _ _ _ _|exact Kd.wY _ _ _ _ _⟩,⟨by (with_reducible repeat (first|apply Kd.aT|apply Kd.aV|apply Kd.bu));exact Kd.dB jU.out (fun _ hk=>⟨(by simp [Value.ownBlock]),hk.2⟩)⟩,⟨by (with_reducible repeat (first|apply Kd.aT|apply Kd.aV|apply Kd.bu));exact Kd.dB Tq.out (fun _ hk=>⟨(by simp [Value.ownBlock]),hk.2⟩)⟩,⟨by repeat (first|(with_reducible first|exact HB.out|apply ai|apply ag|apply ah)|exact HB.out)⟩⟩
              case round =>
                clear H'
                try clear p1
                try clear q1
                try clear hx1
                try clear c2
                try clear sV
                try clear zW
                try clear p2
                try clear c4
                try clear c5
                try clear c6
                try clear qR
                try clear c7
                try clear xJ
                try clear c8
                try clear AA
                try clear PO
                try clear Po
                try clear p2
                try clear Pm
                obtain ⟨qL,iV,rfl,HA,yA,jS,xh,jU,nU,HB⟩:=hrel
                cases gk with
                | zero=>exact absurd HA.out (by simp [bG.l1])
                | succ k2 =>
                  have H:=HA.out
                  clear HA
                  simp only [bG.l1] at H
                  by_cases c14:iV < (t150.length:Int)
                  · rw [if_pos c14] at H
                    have wU:decide (iV < (t150.length:Int))=true:=decide_eq_true c14
                    clear c14
                    by_cases c15:0≤iV
                    · rw [if_pos c15] at H
                      have Fe:decide (0≤iV)=true:=decide_eq_true c15
                      clear c15
                      by_cases c16:iV < (t150.length:Int)
                      · rw [if_pos c16] at H
                        have V8:decide (iV < (t150.length:Int))=true:=decide_eq_true c16
                        clear c16
                        by_cases c17:(eX ByteArray.empty t150 iV).toList=([]:List UInt8)
                        · rw [if_pos c17] at H
                          have SN:((eX ByteArray.empty t150 iV).toList == ([]:List UInt8))=true:=beq_iff_eq.mpr c17
                          have SL:((eX ByteArray.empty t150 iV).toList != ([]:List UInt8))=false:=bne_eq_false_iff_eq.mpr c17
                          clear c17
                          have H':=af.mk H
                          clear H
                          have zA:0≤(iV:Int):=of_decide_eq_true (by first|(with_reducible assumption)|assumption)
                          have zx:iV < (t150.length:Int):=of_decide_eq_true (by first|(with_reducible assumption)|assumption)
                          obtain ⟨Fp,NM,Ih⟩:=Kd.fG (Kd.dK nU.out).2.2 iV zA zx
                          cases NM
                          replace zA:=eq_true zA
                          replace zx:=eq_true zx
                          go_wp2
                          go_roundg k2
                          case measure=>have:=nV.out;have:=yA.out;omega
                          case rel=>exact ⟨(qL),(wrap64 (iV+1)),(by first|rfl|(simp;done)|(simp [*];done)),H',⟨by have:=nV.out;have:=yA.out;omega⟩,⟨by (with_reducible repeat (first|apply Kd.fB|apply Kd.fA|apply Kd.gu));exact jS.out⟩,⟨by (with_reducible repeat (first|apply Kd.aT|apply Kd.aV|apply Kd.bu));exact xh.out⟩,⟨by (with_reducible repeat (first|apply Kd.aT|apply Kd.aV|apply Kd.bu));exact jU.out⟩,⟨by (with_reducible repeat (first|apply Kd.aT|apply Kd.aV|apply Kd.bu));exact nU.out⟩,⟨by repeat (first|(with_reducible first|exact HB.out|apply ai|apply ag|apply ah)|exact HB.out)⟩⟩
                        · rw [if_neg c17] at H
                          have SN:((eX ByteArray.empty t150 iV).toList == ([]:List UInt8))=false:=beq_eq_false_iff_ne.mpr c17
                          have SL:((eX ByteArray.empty t150 iV).toList != ([]:List UInt8))=true:=bne_iff_ne.mpr c17
                          replace H:=Option.bind_eq_some_iff.mp H
                          obtain ⟨t157,XK,H⟩:=H
                          replace H:(if t157=true then (if qL.length < 8796093022208 then (bG.l1 k2 fE jA (qL++[eX ByteArray.empty t150 iV]) t143 (t143.length:Int) jA t150 (t150.length:Int) (wrap64 (iV+1))) else (none)) else (some (([]:List (List ByteArray)),wrap64 (jA+1),4)))=some (r1,r2,r3):=H
                          have A18:=af.mk XK
                          clear XK
                          by_cases c19:t157=true
                          · subst c19
                            have H1:(if qL.length < 8796093022208 then (bG.l1 k2 fE jA (qL++[eX ByteArray.empty t150 iV]) t143 (t143.length:Int) jA t150 (t150.length:Int) (wrap64 (iV+1))) else (none))=some (r1,r2,r3):=by rw [if_pos rfl] at H;exact H
                            clear H
                            have H:=H1
                            clear H1
                            by_cases c20:qL.length < 8796093022208
                            · rw [if_pos c20] at H
                              have WX:=af.mk c20
                              clear c20
                              obtain ⟨y158,hy158⟩:∃ y_:List ByteArray,y_=(qL++[eX ByteArray.empty t150 iV]):=⟨_,rfl⟩
                              replace H:(bG.l1 k2 fE jA y158 t143 (t143.length:Int) jA t150 (t150.length:Int) (wrap64 (iV+1)))=some (r1,r2,r3):=by first|(rw [hy158];with_reducible exact H)|(have oZ:=(Option.bind_some _ _).symm.trans H;rw [hy158];with_reducible exact oZ)|(have oZ:=(Option.bind_some _ _).symm.trans H;with_reducible exact oZ)|with_reducible exact H|(rw [hy158];exact H)|exact H
                              have WN:=af.mk hy158
                              clear hy158
                              have H':=af.mk H
                              clear H
                              have zA:0≤(iV:Int):=of_decide_eq_true (by first|(with_reducible assumption)|assumption)
                              have zx:iV < (t150.length:Int):=of_decide_eq_true (by first|(with_reducible assumption)|assumption)
                              obtain ⟨Fp,NM,Ih⟩:=Kd.fG (Kd.dK nU.out).2.2 iV zA zx
                              cases NM
                              replace zA:=eq_true zA
                              replace zx:=eq_true zx
                              go_wp2_with (first|((with_reducible refine bJ (f:=51) rfl ?_);refine fD (some 40) rfl rfl Tryz.func51 (by kernel_rfl) rfl #[.string (eX ByteArray.empty t150 iV)] rfl (by (try simp only [List.map_toArray,List.map_cons,List.map_nil]);first|done|rfl|(simp only [List.length_drop,List.length_take];rfl)) ?_;(with_reducible refine (pI.calls (eX ByteArray.empty t150 iV) true _ A18.out).mono ?_);rintro e Vg ⟨rfl,hb⟩;refine ⟨_,rfl,?_⟩;have dE:=af.mk (Kd.kW (by (with_reducible repeat (first|apply Kd.fB|apply Kd.fA|apply Kd.gu));exact jS.out) hb);have dL:=af.mk (Kd.cu (by (with_reducible repeat (first|apply Kd.aT|apply Kd.aV|apply Kd.bu));exact xh.out) hb);have eF:=af.mk (Kd.cu (by (with_reducible repeat (first|apply Kd.aT|apply Kd.aV|apply Kd.bu));exact jU.out) hb);have fO:=af.mk (Kd.cu (by (with_reducible repeat (first|apply Kd.aT|apply Kd.aV|apply Kd.bu));exact nU.out) hb);have ik:=af.mk (aX (by repeat (first|(with_reducible first|exact HB.out|apply ai|apply ag|apply ah)|exact HB.out)) hb);clear jS;clear xh;clear jU;clear nU;clear HB;have jS:=dE;have xh:=dL;have jU:=eF;have nU:=fO;have HB:=ik;clear dE dL eF fO ik;(try clear hb);(try clear hb2);(try clear hk);(try clear hi))|((with_reducible refine iD (b:=.append) (xs:=#[.tmp 44,.tmp 46]) rfl ?_);at_builtin;refine Kd.l7 Kd.string (w0:=w) w.heap.size rfl (.tmp 44) (.tmp 46) 22 9 (.string ⟨#[]⟩) 16 rfl Tryz.underlying22 info9 rfl (by decide) (by omega) u8 qL (eX ByteArray.empty t150 iV) [.string (eX ByteArray.empty t150 iV)] (fun k_=>some k_ ≠ (.slice (some vk) t143.length Ky:Value).ownBlock∧some k_ ≠ (.slice (some Fp) t150.length Az:Value).ownBlock) (fun _=>False) rfl rfl ?aP (fun _ hk=>hk.elim) ?aF ?aO ?aB ?aS ?aL ?_;(case aP=>exact rfl);(case aB=>exact (by repeat (first|(with_reducible first|exact HB.out|apply ai|apply ag|apply ah)|exact HB.out)));(case aF=>exact (fun k_ hk=>⟨Kd.fresh' (Kd.qc (by (with_reducible repeat (first|apply Kd.aT|apply Kd.aV|apply Kd.bu));exact jU.out)) k_ hk,Kd.fresh' (Kd.qc (by (with_reducible repeat (first|apply Kd.aT|apply Kd.aV|apply Kd.bu));exact nU.out)) k_ hk⟩));(case aO=>exact (by (with_reducible repeat (first|apply Kd.aT|apply Kd.aV|apply Kd.bu));exact xh.out));(case aS=>exact (aY (by repeat (first|(with_reducible first|exact HB.out|apply ai|apply ag|apply ah)|exact HB.out))));(case aL=>have:=WX.out;omega);intro v159 Kw ho hb hg hat;rw [← WN.out] at ho;have dE:=af.mk (Kd.Rq (ok:=(fun k_=>some k_ ≠ (.slice (some vk) t143.length Ky:Value).ownBlock∧some k_ ≠ (.slice (some Fp) t150.length Az:Value).ownBlock)) (by (with_reducible repeat (first|apply Kd.fB|apply Kd.fA|apply Kd.gu));exact Kd.mG jS.out (fun _ hk=>⟨⟨hk.2.1,hk.2.2⟩,hk.1⟩)) hg hat);have dL:=af.mk (Kd.DW (ok:=(fun k_=>some k_ ≠ (.slice (some Fp) t150.length Az:Value).ownBlock)) (by (with_reducible repeat (first|apply Kd.aT|apply Kd.aV|apply Kd.bu));exact Kd.dB jU.out (fun _ hk=>⟨hk.2,hk.1⟩)) hg hat);have eF:=af.mk (Kd.DW (ok:=(fun k_=>some k_ ≠ (.slice (some vk) t143.length Ky:Value).ownBlock)) (by (with_reducible repeat (first|apply Kd.aT|apply Kd.aV|apply Kd.bu));exact Kd.dB nU.out (fun _ hk=>⟨hk.2,hk.1⟩)) hg hat);have fO:=af.mk (hb);have ik:=af.mk (ho);clear jS;clear jU;clear nU;clear HB;clear xh;have jS:=dE;have jU:=dL;have nU:=eF;have HB:=fO;have Xl:=ik;clear dE dL eF fO ik;clear ho hb hg hat))
                              go_roundg k2
                              case measure=>have:=nV.out;have:=yA.out;omega
                              case rel=>exact ⟨(y158),(wrap64 (iV+1)),(by first|rfl|(simp;done)|(simp [*];done)),H',⟨by have:=nV.out;have:=yA.out;omega⟩,⟨by (with_reducible repeat (first|apply Kd.fB|apply Kd.fA|apply Kd.gu));exact Kd.mG jS.out (fun _ hk=>⟨hk.2,⟨hk.1.1,hk.1.2⟩⟩)⟩,⟨by (with_reducible repeat (first|apply Kd.aT|apply Kd.aV|apply Kd.bu));exact Xl.out⟩,⟨by (with_reducible repeat (first|apply Kd.aT|apply Kd.aV|apply Kd.bu));exact Kd.dB jU.out (fun _ hk=>⟨hk.2,hk.1⟩)⟩,⟨by (with_reducible repeat (first|apply Kd.aT|apply Kd.aV|apply Kd.bu));exact Kd.dB nU.out (fun _ hk=>⟨hk.2,hk.1⟩)⟩,⟨by repeat (first|(with_reducible first|exact HB.out|apply ai|apply ag|apply ah)|exact HB.out)⟩⟩
                            · rw [if_neg c20] at H
                              exact absurd H (by simp)
                          · replace c19:=Bool.eq_false_iff.mpr c19
                            subst c19
                            have H1:(some (([]:List (List ByteArray)),wrap64 (jA+1),4))=some (r1,r2,r3):=by rw [if_neg (show ¬ (false=true) by decide)] at H;exact H
                            clear H
                            have H:=H1
                            clear H1
                            simp only [Option.some.injEq,Prod.mk.injEq] at H
                            obtain ⟨rfl,rfl,rfl⟩:=H
                            have zA:0≤(iV:Int):=of_decide_eq_true (by first|(with_reducible assumption)|assumption)
                            have zx:iV < (t150.length:Int):=of_decide_eq_true (by first|(with_reducible assumption)|assumption)
                            obtain ⟨Fp,NM,Ih⟩:=Kd.fG (Kd.dK nU.out).2.2 iV zA zx
                            cases NM
                            replace zA:=eq_true zA
                            replace zx:=eq_true zx
                            go_wp2_with (first|((with_reducible refine bJ (f:=51) rfl ?_);refine fD (some 40) rfl rfl Tryz.func51 (by kernel_rfl) rfl #[.string (eX ByteArray.empty t150 iV)] rfl (by (try simp only [List.map_toArray,List.map_cons,List.map_nil]);first|done|rfl|(simp only [List.length_drop,List.length_take];rfl)) ?_;(with_reducible refine (pI.calls (eX ByteArray.empty t150 iV) false _ A18.out).mono ?_);rintro e Jb ⟨rfl,hb⟩;refine ⟨_,rfl,?_⟩;have dE:=af.mk (Kd.kW (by (with_reducible repeat (first|apply Kd.fB|apply Kd.fA|apply Kd.gu));exact jS.out) hb);have dL:=af.mk (Kd.cu (by (with_reducible repeat (first|apply Kd.aT|apply Kd.aV|apply Kd.bu));exact xh.out) hb);have eF:=af.mk (Kd.cu (by (with_reducible repeat (first|apply Kd.aT|apply Kd.aV|apply Kd.bu));exact jU.out) hb);have fO:=af.mk (Kd.cu (by (with_reducible repeat (first|apply Kd.aT|apply Kd.aV|apply Kd.bu));exact nU.out) hb);have ik:=af.mk (aX (by repeat (first|(with_reducible first|exact HB.out|apply ai|apply ag|apply ah)|exact HB.out)) hb);clear jS;clear xh;clear jU;clear nU;clear HB;have jS:=dE;have xh:=dL;have jU:=eF;have nU:=fO;have HB:=ik;clear dE dL eF fO ik;(try clear hb);(try clear hb2);(try clear hk);(try clear hi)))
                            go_ret3
                            exact ⟨_,by first|rfl|(simp [bF,bD] <;> rfl)|(simp [*,bF,bD] <;> rfl),by first|exact Kd.wY _ _ _ _ _|exact Kd.xe _ _ _ _ _|exact Kd.wX _ _ _ _ _|exact Kd.wZ _ _ _ _ _|exact Kd.je _ _ _ _ _,by repeat (first|(with_reducible first|exact HB.out|apply ai|apply ag|apply ah)|exact HB.out)⟩
                      · rw [if_neg c16] at H
                        exact absurd H (by simp)
                    · rw [if_neg c15] at H
                      exact absurd H (by simp)
                  · rw [if_neg c14] at H
                    have wU:decide (iV < (t150.length:Int))=false:=decide_eq_false c14
                    clear c14
                    by_cases c24:(qL.length:Int) > 0
                    · rw [if_pos c24] at H
                      have SK:decide (0 < (qL.length:Int))=true:=decide_eq_true c24
                      have VX:decide (0 < qL.length)=true:=decide_eq_true (by omega)
                      clear c24
                      by_cases c25:fE.length < 5864062014805
                      · rw [if_pos c25] at H
                        have WV:=af.mk c25
                        clear c25
                        obtain ⟨y153,hy153⟩:∃ y_:List (List ByteArray),y_=(fE++[qL]):=⟨_,rfl⟩
                        replace H:(bG.l0 k2 y153 t143 (t143.length:Int) (wrap64 (jA+1)))=some (r1,r2,r3):=by first|(rw [hy153];with_reducible exact H)|(have oZ:=(Option.bind_some _ _).symm.trans H;rw [hy153];with_reducible exact oZ)|(have oZ:=(Option.bind_some _ _).symm.trans H;with_reducible exact oZ)|with_reducible exact H|(rw [hy153];exact H)|exact H
                        have WO:=af.mk hy153
                        clear hy153
                        have H':=af.mk H
                        clear H
                        obtain ⟨Oy,NT,QX⟩:=Kd.dY xh.out
                        subst QX
                        go_wp2_with (first|((with_reducible refine iD (b:=.append) (xs:=#[.tmp 52,.tmp 54]) rfl ?_);at_builtin;refine Kd.Fv (Kd.slice 9 Kd.string) (w0:=w) w.heap.size rfl (.tmp 52) (.tmp 54) 43 22 (.slice none 0 0) 24 rfl Tryz.underlying43 info22 rfl (by decide) (by omega) u5 fE qL [.slice Oy qL.length NT] (fun k_=>some k_ ≠ (.slice (some vk) t143.length Ky:Value).ownBlock∧some k_ ≠ (.slice GV t150.length Az:Value).ownBlock) (fun k_=>some k_=(.slice Oy qL.length NT:Value).ownBlock) rfl rfl ?aP (fun k_ hk_=>((Kd.dB (ok':=fun k_=>((fun k_=>some k_ ≠ (.slice (some vk) t143.length Ky:Value).ownBlock∧some k_ ≠ (.slice GV t150.length Az:Value).ownBlock)) k_∧some k_ ≠ (u5:Value).ownBlock) (Kd.lg (xh.out) (Kd.uM jS.out) (by decide)) (fun k_ hk=>⟨⟨hk.1.1,hk.1.2⟩,hk.2⟩))).1 k_ hk_.symm) ?aF ?aO ?aB ?aS ?aL ?_;(case aP=>exact Kd.Tj (Kd.dB (Kd.DT rfl (Kd.dB (ok':=fun k_=>((fun k_=>some k_ ≠ (.slice (some vk) t143.length Ky:Value).ownBlock∧some k_ ≠ (.slice GV t150.length Az:Value).ownBlock)) k_∧some k_ ≠ (u5:Value).ownBlock) (Kd.lg (xh.out) (Kd.uM jS.out) (by decide)) (fun k_ hk=>⟨⟨hk.1.1,hk.1.2⟩,hk.2⟩))) (fun _ h_=>h_)));(case aB=>exact (by repeat (first|(with_reducible first|exact HB.out|apply ai|apply ag|apply ah)|exact HB.out)));(case aF=>exact (fun k_ hk=>⟨Kd.fresh' (Kd.qc (by (with_reducible repeat (first|apply Kd.aT|apply Kd.aV|apply Kd.bu));exact jU.out)) k_ hk,Kd.fresh' (Kd.qc (by (with_reducible repeat (first|apply Kd.aT|apply Kd.aV|apply Kd.bu));exact nU.out)) k_ hk⟩));(case aO=>exact (by (with_reducible repeat (first|apply Kd.fB|apply Kd.fA|apply Kd.gu));exact Kd.mG jS.out (fun k_ hk=>⟨⟨hk.2.1,hk.2.2⟩,fun e_=>hk.1 e_⟩)));(case aS=>exact (aY (by repeat (first|(with_reducible first|exact HB.out|apply ai|apply ag|apply ah)|exact HB.out))));(case aL=>have:=WV.out;omega);intro v154 w27 ho hb hg hat;rw [← WO.out] at ho;have dE:=af.mk (Kd.yY (by (with_reducible repeat (first|apply Kd.aT|apply Kd.aV|apply Kd.bu));exact jU.out) (Kd.uM (by (with_reducible repeat (first|apply Kd.fB|apply Kd.fA|apply Kd.gu));exact jS.out)) (by decide) hg);have dL:=af.mk (Kd.yY (by (with_reducible repeat (first|apply Kd.aT|apply Kd.aV|apply Kd.bu));exact nU.out) (Kd.uM (by (with_reducible repeat (first|apply Kd.fB|apply Kd.fA|apply Kd.gu));exact jS.out)) (by decide) hg);have eF:=af.mk (hb);have fO:=af.mk (ho);clear jU;clear nU;clear HB;clear jS;clear xh;have jU:=dE;have nU:=dL;have HB:=eF;have Xm:=fO;clear dE dL eF fO;clear ho hb hg hat))
                        go_roundg k2
                        case measure=>have:=nV.out;have:=yA.out;omega
                        case rel=>exact ⟨(y153),(wrap64 (jA+1)),(by first|rfl|(simp;done)|(simp [*];done)),H',⟨by have:=nV.out;have:=yA.out;omega⟩,⟨by (with_reducible repeat (first|apply Kd.fB|apply Kd.fA|apply Kd.gu));exact Kd.mG Xm.out (fun _ hk=>hk.1)⟩,⟨by (with_reducible repeat (first|apply Kd.aT|apply Kd.aV|apply Kd.bu));exact Kd.dB jU.out (fun _ hk=>trivial)⟩,⟨by repeat (first|(with_reducible first|exact HB.out|apply ai|apply ag|apply ah)|exact HB.out)⟩⟩
                      · rw [if_neg c25] at H
                        exact absurd H (by simp)
                    · rw [if_neg c24] at H
                      have SK:decide (0 < (qL.length:Int))=false:=decide_eq_false c24
                      have VX:decide (0 < qL.length)=false:=decide_eq_false (by omega)
                      clear c24
                      have H':=af.mk H
                      clear H
                      obtain ⟨agp,af1,adm⟩:=Kd.dY xh.out
                      subst adm
                      go_wp2
                      go_roundg k2
                      case measure=>have:=nV.out;have:=yA.out;omega
                      case rel=>exact ⟨(fE),(wrap64 (jA+1)),(by first|rfl|(simp;done)|(simp [*];done)),H',⟨by have:=nV.out;have:=yA.out;omega⟩,⟨by (with_reducible repeat (first|apply Kd.fB|apply Kd.fA|apply Kd.gu));exact Kd.mG jS.out (fun _ hk=>hk.2.1)⟩,⟨by (with_reducible repeat (first|apply Kd.aT|apply Kd.aV|apply Kd.bu));exact Kd.dB jU.out (fun _ hk=>trivial)⟩,⟨by repeat (first|(with_reducible first|exact HB.out|apply ai|apply ag|apply ah)|exact HB.out)⟩⟩
            · rw [if_neg c8] at H
              exact absurd H (by simp)
          · rw [if_neg c7] at H
            exact absurd H (by simp)
        · rw [if_neg c6] at H
          have qR:decide (jA < (t143.length:Int))=false:=decide_eq_false c6
          clear c6
          simp only [Option.some.injEq,Prod.mk.injEq] at H
          obtain ⟨rfl,rfl,rfl⟩:=H
          go_wp2
          go_ret3
          exact ⟨_,by first|rfl|(simp [bF,bD] <;> rfl)|(simp [*,bF,bD] <;> rfl),by (with_reducible repeat (first|apply Kd.fB|apply Kd.fA|apply Kd.gu));exact Kd.mG jS.out (fun _ hk=>trivial),by repeat (first|(with_reducible first|exact HB.out|apply ai|apply ag|apply ah)|exact HB.out)⟩
def stringslite_HasSuffix.f (a0:ByteArray) (a1:ByteArray):Option (Bool):=if (a0.size:Int) ≥ (a1.size:Int) then (if 0≤(wrap64 ((a0.size:Int) - (a1.size:Int))) then (if (wrap64 ((a0.size:Int) - (a1.size:Int)))≤(a0.size:Int) then (some ((a0.extract ((wrap64 ((a0.size:Int) - (a1.size:Int))):Int).toNat a0.size).toList == a1.toList)) else (none)) else (none)) else (some false)
set_option maxHeartbeats 8000000 in
set_option maxRecDepth 100000 in
theorem stringslite_HasSuffix.calls (a0:ByteArray) (a1:ByteArray) (r:Bool) (w:World) (h:stringslite_HasSuffix.f a0 a1=some r) :
    Calls Tryz.prog 62 #[.string a0,.string a1] w fun e w'=>e=.returned (.bool r)∧dD w w':=by
  have H:(if (a0.size:Int) ≥ (a1.size:Int) then (if 0≤(wrap64 ((a0.size:Int) - (a1.size:Int))) then (if (wrap64 ((a0.size:Int) - (a1.size:Int)))≤(a0.size:Int) then (some ((a0.extract ((wrap64 ((a0.size:Int) - (a1.size:Int))):Int).toNat a0.size).toList == a1.toList)) else (none)) else (none)) else (some false))=some r:=h
  clear h
  by_cases c3:(a0.size:Int) ≥ (a1.size:Int)
  · rw [if_pos c3] at H
    have J9:decide ((a1.size:Int)≤(a0.size:Int))=true:=decide_eq_true c3
    have adJ:decide (a1.size≤a0.size)=true:=decide_eq_true (Int.ofNat_le.mp c3)
    clear c3
    obtain ⟨Sr,PR⟩:∃ j_:Int,(wrap64 ((a0.size:Int) - (a1.size:Int)))=j_:=⟨_,rfl⟩
    replace H:(if 0≤(Sr) then (if (Sr)≤(a0.size:Int) then (some ((a0.extract ((Sr):Int).toNat a0.size).toList == a1.toList)) else (none)) else (none))=some r:=by first|(rw [PR] at H;exact H)|(simp only [PR] at H ⊢;exact H)
    have aeN:(IntKind.i64.wrap ((a0.size:Int) - (a1.size:Int)))=Sr:=(aK _).trans PR
    by_cases c5:0≤(Sr)
    · rw [if_pos c5] at H
      have vO:=eq_true c5
      have UH:decide (0≤(Sr))=true:=decide_eq_true c5
      clear c5
      by_cases c6:(Sr)≤(a0.size:Int)
      · rw [if_pos c6] at H
        have qR:=eq_true c6
        have J7:decide ((Sr)≤(a0.size:Int))=true:=decide_eq_true c6
        clear c6
        obtain rfl:=Option.some.inj H
        go_enter Tryz.func62,Tryz.ntmps62
        go_wp2
        go_ret
        exact ⟨by first|rfl|(simp;done)|(simp only [← PR] <;> (first|rfl|simp))|(simp [*];done),by repeat (first|exact dD.refl _|apply dD.step)⟩
      · rw [if_neg c6] at H
        exact absurd H (by simp)
    · rw [if_neg c5] at H
      exact absurd H (by simp)
  · rw [if_neg c3] at H
    have J9:decide ((a1.size:Int)≤(a0.size:Int))=false:=decide_eq_false c3
    have adJ:decide (a1.size≤a0.size)=false:=decide_eq_false (fun h=>c3 (Int.ofNat_le.mpr h))
    clear c3
    obtain rfl:=Option.some.inj H
    go_enter Tryz.func62,Tryz.ntmps62
    go_wp2
    go_ret
    exact ⟨by first|rfl|(simp;done)|(simp [*];done),by repeat (first|exact dD.refl _|apply dD.step)⟩
def stringslite_TrimSuffix.f (a0:ByteArray) (a1:ByteArray):Option (ByteArray):=(stringslite_HasSuffix.f a0 a1).bind fun t161=>(if t161=true then (if 0≤(wrap64 ((a0.size:Int) - (a1.size:Int))) then (if (wrap64 ((a0.size:Int) - (a1.size:Int)))≤(a0.size:Int) then (some (a0.extract 0 ((wrap64 ((a0.size:Int) - (a1.size:Int))):Int).toNat)) else (none)) else (none)) else (some a0))
set_option maxHeartbeats 8000000 in
set_option maxRecDepth 100000 in
theorem stringslite_TrimSuffix.calls (a0:ByteArray) (a1:ByteArray) (r:ByteArray) (w:World) (h:stringslite_TrimSuffix.f a0 a1=some r) :
    Calls Tryz.prog 52 #[.string a0,.string a1] w fun e w'=>e=.returned (.string r)∧dD w w':=by
  have H:((stringslite_HasSuffix.f a0 a1).bind fun t161=>(if t161=true then (if 0≤(wrap64 ((a0.size:Int) - (a1.size:Int))) then (if (wrap64 ((a0.size:Int) - (a1.size:Int)))≤(a0.size:Int) then (some (a0.extract 0 ((wrap64 ((a0.size:Int) - (a1.size:Int))):Int).toNat)) else (none)) else (none)) else (some a0)))=some r:=h
  clear h
  replace H:=Option.bind_eq_some_iff.mp H
  obtain ⟨t161,FN,H⟩:=H
  replace H:(if t161=true then (if 0≤(wrap64 ((a0.size:Int) - (a1.size:Int))) then (if (wrap64 ((a0.size:Int) - (a1.size:Int)))≤(a0.size:Int) then (some (a0.extract 0 ((wrap64 ((a0.size:Int) - (a1.size:Int))):Int).toNat)) else (none)) else (none)) else (some a0))=some r:=H
  have A3:=af.mk FN
  clear FN
  by_cases c4:t161=true
  · subst c4
    have H1:(if 0≤(wrap64 ((a0.size:Int) - (a1.size:Int))) then (if (wrap64 ((a0.size:Int) - (a1.size:Int)))≤(a0.size:Int) then (some (a0.extract 0 ((wrap64 ((a0.size:Int) - (a1.size:Int))):Int).toNat)) else (none)) else (none))=some r:=by rw [if_pos rfl] at H;exact H
    clear H
    have H:=H1
    clear H1
    obtain ⟨Sm,L8⟩:∃ j_:Int,(wrap64 ((a0.size:Int) - (a1.size:Int)))=j_:=⟨_,rfl⟩
    replace H:(if 0≤(Sm) then (if (Sm)≤(a0.size:Int) then (some (a0.extract 0 ((Sm):Int).toNat)) else (none)) else (none))=some r:=by first|(rw [L8] at H;exact H)|(simp only [L8] at H ⊢;exact H)
    (try rw [L8] at A3)
    have aeM:(IntKind.i64.wrap ((a0.size:Int) - (a1.size:Int)))=Sm:=(aK _).trans L8
    by_cases c6:0≤(Sm)
    · rw [if_pos c6] at H
      have qR:=eq_true c6
      have J7:decide (0≤(Sm))=true:=decide_eq_true c6
      clear c6
      by_cases c7:(Sm)≤(a0.size:Int)
      · rw [if_pos c7] at H
        have xJ:=eq_true c7
        have DJ:decide ((Sm)≤(a0.size:Int))=true:=decide_eq_true c7
        clear c7
        obtain rfl:=Option.some.inj H
        go_enter Tryz.func52,Tryz.ntmps52
        go_wp2_with (first|((with_reducible refine bJ (f:=62) rfl ?_);refine fD (some 7) rfl rfl Tryz.func62 (by kernel_rfl) rfl #[.string a0,.string a1] rfl (by (try simp only [List.map_toArray,List.map_cons,List.map_nil]);first|done|rfl|(simp only [List.length_drop,List.length_take];rfl)) ?_;(with_reducible refine (stringslite_HasSuffix.calls a0 a1 true _ A3.out).mono ?_);rintro e w' ⟨rfl,⟨nd,rfl⟩⟩;refine ⟨_,rfl,?_⟩))
        go_ret
        exact ⟨by first|rfl|(simp;done)|(simp only [← L8] <;> (first|rfl|simp))|(simp [*];done),by repeat (first|exact dD.refl _|apply dD.step)⟩
      · rw [if_neg c7] at H
        exact absurd H (by simp)
    · rw [if_neg c6] at H
      exact absurd H (by simp)
  · replace c4:=Bool.eq_false_iff.mpr c4
    subst c4
    have H1:(some a0)=some r:=by rw [if_neg (show ¬ (false=true) by decide)] at H;exact H
    clear H
    have H:=H1
    clear H1
    obtain rfl:=Option.some.inj H
    go_enter Tryz.func52,Tryz.ntmps52
    go_wp2_with (first|((with_reducible refine bJ (f:=62) rfl ?_);refine fD (some 7) rfl rfl Tryz.func62 (by kernel_rfl) rfl #[.string a0,.string a1] rfl (by (try simp only [List.map_toArray,List.map_cons,List.map_nil]);first|done|rfl|(simp only [List.length_drop,List.length_take];rfl)) ?_;(with_reducible refine (stringslite_HasSuffix.calls a0 a1 false _ A3.out).mono ?_);rintro e w' ⟨rfl,⟨nd,rfl⟩⟩;refine ⟨_,rfl,?_⟩))
    go_ret
    exact ⟨by first|rfl|(simp;done)|(simp [*];done),by repeat (first|exact dD.refl _|apply dD.step)⟩
def strings_TrimSuffix.f (a0:ByteArray) (a1:ByteArray):Option (ByteArray):=(stringslite_TrimSuffix.f a0 a1).bind fun t162=>(some t162)
set_option maxHeartbeats 8000000 in
set_option maxRecDepth 100000 in
theorem strings_TrimSuffix.calls (a0:ByteArray) (a1:ByteArray) (r:ByteArray) (w:World) (h:strings_TrimSuffix.f a0 a1=some r) :
    Calls Tryz.prog 32 #[.string a0,.string a1] w fun e w'=>e=.returned (.string r)∧dD w w':=by
  have H:((stringslite_TrimSuffix.f a0 a1).bind fun t162=>(some t162))=some r:=h
  clear h
  replace H:=Option.bind_eq_some_iff.mp H
  obtain ⟨t162,FN,H⟩:=H
  replace H:(some t162)=some r:=H
  have A3:=af.mk FN
  clear FN
  obtain rfl:=Option.some.inj H
  go_enter Tryz.func32,Tryz.ntmps32
  go_wp2_with (first|((with_reducible refine bJ (f:=52) rfl ?_);refine fD (some 7) rfl rfl Tryz.func52 (by kernel_rfl) rfl #[.string a0,.string a1] rfl (by (try simp only [List.map_toArray,List.map_cons,List.map_nil]);first|done|rfl|(simp only [List.length_drop,List.length_take];rfl)) ?_;(with_reducible refine (stringslite_TrimSuffix.calls a0 a1 t162 _ A3.out).mono ?_);rintro e w' ⟨rfl,⟨nd,rfl⟩⟩;refine ⟨_,rfl,?_⟩))
  go_ret
  exact ⟨by first|rfl|(simp;done)|(simp [*];done),by repeat (first|exact dD.refl _|apply dD.step)⟩
end Go.Proofs.YtkclndkbccbhaaaGreatDoor.P
end
section
namespace Go.Proofs.YtkclndkbccbhaaaGreatDoor.P
open Go
def lU (c:UInt8):List UInt8→List (List UInt8)
  | []=>[[]]
  | x :: xs=>if x=c then [] :: lU c xs else (x :: (lU c xs).headD []) :: (lU c xs).tail
theorem xu (c:UInt8) (l:List UInt8):lU c l ≠ []:=by
  cases l with
  | nil=>simp [lU]
  | cons x xs=>unfold lU;split <;> simp
theorem JF {α:Type} {a b:List α} (d:α) (h:a ≠ []):(a++b).headD d=a.headD d:=by
  cases a with
  | nil=>exact absurd rfl h
  | cons x xs=>rfl
theorem KL {α:Type} {a b:List α} (h:a ≠ []):(a++b).tail=a.tail++b:=by
  cases a with
  | nil=>exact absurd rfl h
  | cons x xs=>rfl
theorem wu (c:UInt8) (a b:List UInt8):lU c (a++c :: b)=lU c a++lU c b:=by
  induction a with
  | nil=>simp [lU]
  | cons x xs ih =>
    simp only [List.cons_append,lU]
    by_cases h:x=c
    · rw [if_pos h,if_pos h,ih];rfl
    · rw [if_neg h,if_neg h,ih,JF _ (xu c xs),KL (xu c xs)];rfl
theorem lI (c:UInt8) {l:List UInt8} (h:c ∉ l):lU c l=[l]:=by
  induction l with
  | nil=>rfl
  | cons x xs ih =>
    simp only [List.mem_cons,not_or] at h
    unfold lU
    rw [if_neg (fun e=>h.1 e.symm),ih h.2]
    rfl
theorem FQ (c:UInt8) (l:List UInt8):(lU c l).length=l.count c+1:=by
  induction l with
  | nil=>rfl
  | cons x xs ih =>
    unfold lU
    by_cases h:x=c
    · rw [if_pos h,h,List.count_cons_self];simp [ih]
    · have h1:0 < (lU c xs).length:=List.length_pos_iff.2 (xu c xs)
      rw [if_neg h,List.count_cons_of_ne h]
      simp only [List.length_cons,List.length_tail]
      omega
theorem OX {c:UInt8} {l p:List UInt8} (h:p ∈ lU c l):c ∉ p:=by
  induction l generalizing p with
  | nil=>simp [lU] at h;subst h;simp
  | cons x xs ih =>
    unfold lU at h
    by_cases e:x=c
    · rw [if_pos e] at h
      rcases List.mem_cons.1 h with h|h
      · subst h;simp
      · exact ih h
    · rw [if_neg e] at h
      rcases List.mem_cons.1 h with h|h
      · subst h
        simp only [List.mem_cons,not_or]
        refine ⟨fun e'=>e e'.symm,?_⟩
        apply ih
        cases hs:lU c xs with
        | nil=>exact absurd hs (xu c xs)
        | cons y ys=>simp
      · exact ih (List.mem_of_mem_tail h)
theorem parted {α:Type} [DecidableEq α] (c:α) (l:List α):c ∉ l ∨ ∃ a b,l=a++c :: b∧c ∉ a:=by
  induction l with
  | nil=>exact .inl (by simp)
  | cons x xs ih =>
    by_cases e:x=c
    · subst e
      exact .inr ⟨[],xs,rfl,by simp⟩
    · rcases ih with h|⟨a,b,h,ha⟩
      · exact .inl (by simp only [List.mem_cons,not_or];exact ⟨fun e'=>e e'.symm,h⟩)
      · exact .inr ⟨x :: a,b,by rw [h];rfl,by simp only [List.mem_cons,not_or];exact ⟨fun e'=>e e'.symm,ha⟩⟩
theorem tV {c:UInt8} {l:List UInt8} (h:c ∉ l):Lib.indexByte l c=-1:=by
  induction l with
  | nil=>rfl
  | cons x xs ih =>
    simp only [List.mem_cons,not_or] at h
    unfold Lib.indexByte
    rw [if_neg (by simp;exact fun e=>h.1 e.symm),ih h.2]
    rfl
theorem wI {c:UInt8} {a b:List UInt8} (h:c ∉ a):Lib.indexByte (a++c :: b) c=a.length:=by
  induction a with
  | nil=>simp [Lib.indexByte]
  | cons x xs ih =>
    simp only [List.mem_cons,not_or] at h
    simp only [List.cons_append]
    unfold Lib.indexByte
    rw [if_neg (by simp;exact fun e=>h.1 e.symm),ih h.2,if_neg (by simp)]
    simp
theorem uX {p:UInt8→Bool} {l:List UInt8} (h:∀ x ∈ l,p x=true):l.takeWhile p=l:=by
  induction l with
  | nil=>rfl
  | cons x xs ih=>rw [List.takeWhile_cons,if_pos (h x (by simp)),ih (fun y hy=>h y (by simp [hy]))]
theorem Am {p:UInt8→Bool} {l:List UInt8} {x:UInt8} (h:x ∈ l.takeWhile p):p x=true:=by
  induction l with
  | nil=>cases h
  | cons y ys ih =>
    rw [List.takeWhile_cons] at h
    by_cases e:p y=true
    · rw [if_pos e] at h
      rcases List.mem_cons.1 h with rfl|h
      · exact e
      · exact ih h
    · rw [if_neg e] at h
      cases h
theorem zo (c:UInt8):∀ (k:Nat) (l:List UInt8),l.count c≤k→Lib.splitK [c] 0 k l=lU c l
  | 0,l,h=>by
    have hc:c ∉ l:=List.count_eq_zero.1 (by omega)
    rw [lI c hc]
    rfl
  | k+1,l,h=>by
    unfold Lib.splitK
    rw [Lib.index_one]
    rcases parted c l with hc|⟨a,b,rfl,ha⟩
    · rw [tV hc,lI c hc]
      rfl
    · rw [wI ha,if_neg (by simp),wu,lI c ha]
      have hk:b.count c≤k:=by
        rw [List.count_append,List.count_cons_self] at h
        omega
      have e1:(a++c :: b).take ((a.length:Int).toNat+0)=a:=by simp
      have e2:(a++c :: b).drop ((a.length:Int).toNat + [c].length)=b:=by
        rw [Int.toNat_natCast]
        simp [List.drop_append]
      rw [e1,e2,zo c k b hk]
      rfl
theorem Q3 (c:UInt8) (l:List UInt8):(Lib.cut l [c]).1=l.takeWhile (· ≠ c):=by
  unfold Lib.cut
  rw [Lib.index_one]
  rcases parted c l with hc|⟨a,b,rfl,ha⟩
  · rw [tV hc,if_neg (by omega)]
    symm
    refine uX fun x hx=>?_
    simp only [ne_eq,decide_eq_true_eq]
    rintro rfl
    exact hc hx
  · rw [wI ha,if_pos (by omega),Int.toNat_natCast]
    have h1:∀ x ∈ a,(decide (x ≠ c))=true:=by
      intro x hx
      simp only [ne_eq,decide_eq_true_eq]
      rintro rfl
      exact ha hx
    rw [List.takeWhile_append_of_pos h1]
    simp
theorem dropWhile_nil {p:UInt8→Bool} {l:List UInt8}:l.dropWhile p=[] ↔ ∀ x ∈ l,p x=true:=by
  induction l with
  | nil=>simp
  | cons x xs ih =>
    rw [List.dropWhile_cons]
    by_cases h:p x=true
    · rw [if_pos h,ih];simp [h]
    · rw [if_neg h];simp [h]
theorem yH {p:UInt8→Bool} {l:List UInt8} {x:UInt8} {xs:List UInt8} (h:l.dropWhile p=x :: xs):¬ p x=true:=by
  induction l with
  | nil=>cases h
  | cons y ys ih =>
    rw [List.dropWhile_cons] at h
    by_cases e:p y=true
    · rw [if_pos e] at h;exact ih h
    · rw [if_neg e] at h
      injection h with h1 h2
      subst h1
      exact e
theorem xn {l cs:List UInt8}:Lib.trimS l cs=[] ↔ ∀ x ∈ l,cs.contains x=true:=by
  unfold Lib.trimS Lib.trimLeftS Lib.trimRightS
  rw [dropWhile_nil]
  constructor
  · intro h
    cases hd:l.reverse.dropWhile (cs.contains ·) with
    | nil =>
      intro x hx
      exact dropWhile_nil.1 hd x (by simp [hx])
    | cons y ys =>
      exact absurd (h y (by rw [hd];simp)) (yH hd)
  · intro h
    have:l.reverse.dropWhile (cs.contains ·)=[]:=dropWhile_nil.2 fun x hx=>h x (by simpa using hx)
    rw [this]
    simp
def H6 (b:UInt8):Bool:=decide (97≤b.toNat∧b.toNat≤122) || decide (48≤b.toNat∧b.toNat≤57) || decide (b.toNat=45)
def ve (w:List UInt8):Bool:=decide (w.length≤30) && w.all H6
def toks (l:List UInt8):List (List UInt8):=(lU 32 (l.takeWhile (· ≠ 35))).filter (· ≠ [])
def keep (t:List (List UInt8)):List (List (List UInt8)):=if t=[] then [] else [t]
def Gu (x:List UInt8):Bool:=(toks x).all ve
def nZ (xs:List (List UInt8)):List (List (List UInt8)):=xs.flatMap fun x=>keep (toks x)
def LR:Nat→List (List (List UInt8))→List (List UInt8)→List (List (List UInt8)) × Nat × Nat
  | _,acc,[]=>(acc,0,0)
  | n,acc,x :: r=>if Gu x then LR (n+1) (acc++keep (toks x)) r else ([],n+1,4)
theorem GN {xs:List (List UInt8)} (h:∀ x ∈ xs,Gu x=true) (n:Nat) (acc:List (List (List UInt8))) (ys:List (List UInt8)):LR n acc (xs++ys)=LR (n+xs.length) (acc++nZ xs) ys:=by
  induction xs generalizing n acc with
  | nil=>simp [nZ]
  | cons x xs ih =>
    simp only [List.cons_append,LR]
    rw [if_pos (h x (by simp)),ih (fun y hy=>h y (by simp [hy]))]
    simp only [List.length_cons,nZ,List.flatMap_cons,List.append_assoc]
    rw [show n+1+xs.length=n+(xs.length+1) from by omega]
theorem Ry {xs:List (List UInt8)} (h:∀ x ∈ xs,Gu x=true) (n:Nat) (acc:List (List (List UInt8))):LR n acc xs=(acc++nZ xs,0,0):=by
  have:=GN h n acc []
  rw [List.append_nil] at this
  rw [this]
  rfl
theorem UN {xs:List (List UInt8)} (h:∀ x ∈ xs,Gu x=true) (n:Nat) (acc:List (List (List UInt8))) (x:List UInt8) (hx:Gu x=false) (ys:List (List UInt8)):LR n acc (xs++x :: ys)=([],n+xs.length+1,4):=by
  rw [GN h]
  simp [LR,hx]
theorem Oq (xs:List (List UInt8)):(∀ x ∈ xs,Gu x=true) ∨ ∃ a x b,xs=a++x :: b∧(∀ y ∈ a,Gu y=true)∧Gu x=false:=by
  induction xs with
  | nil=>exact .inl (by simp)
  | cons x xs ih =>
    cases hx:Gu x with
    | false=>exact .inr ⟨[],x,xs,rfl,by simp,hx⟩
    | true =>
      rcases ih with h|⟨a,y,b,h,ha,hy⟩
      · refine .inl fun z hz=>?_
        rcases List.mem_cons.1 hz with rfl|hz
        · exact hx
        · exact h z hz
      · refine .inr ⟨x :: a,y,b,by rw [h];rfl,fun z hz=>?_,hy⟩
        rcases List.mem_cons.1 hz with rfl|hz
        · exact hx
        · exact ha z hz
theorem Ec {l w:List UInt8} (h:w ∈ toks l):w ≠ []∧(32:UInt8) ∉ w∧(35:UInt8) ∉ w:=by
  unfold toks at h
  rw [List.mem_filter] at h
  refine ⟨by simpa using h.2,OX h.1,?_⟩
  have h35:(35:UInt8) ∉ l.takeWhile (· ≠ 35):=by
    intro hm
    have:=Am hm
    simp at this
  intro hw
  refine h35 ?_
  generalize l.takeWhile (· ≠ 35)=m at h
  have:∀ (m w:List UInt8),w ∈ lU 32 m→∀ x ∈ w,x ∈ m:=by
    intro m
    induction m with
    | nil=>intro w hw x hx;simp [lU] at hw;subst hw;cases hx
    | cons y ys ih =>
      intro w hw x hx
      unfold lU at hw
      by_cases e:y=32
      · rw [if_pos e] at hw
        rcases List.mem_cons.1 hw with rfl|hw
        · cases hx
        · exact List.mem_cons_of_mem _ (ih w hw x hx)
      · rw [if_neg e] at hw
        rcases List.mem_cons.1 hw with rfl|hw
        · rcases List.mem_cons.1 hx with rfl|hx
          · simp
          · refine List.mem_cons_of_mem _ (ih ((lU 32 ys).headD []) ?_ x hx)
            cases hs:lU 32 ys with
            | nil=>exact absurd hs (xu 32 ys)
            | cons a b=>simp
        · exact List.mem_cons_of_mem _ (ih w (List.mem_of_mem_tail hw) x hx)
  exact this m w h.1 35 hw
def plainW (w:List UInt8):Prop:=w ≠ []∧(32:UInt8) ∉ w∧(35:UInt8) ∉ w
theorem Jy {ws:List (List UInt8)} (h:∀ w ∈ ws,plainW w):(35:UInt8) ∉ Lib.join ws [32]:=by
  cases ws with
  | nil=>simp [Lib.join_nil]
  | cons w r =>
    rw [Lib.join_cons]
    unfold Lib.joinTail
    simp only [List.mem_append,List.mem_flatten,List.mem_map,not_or,not_exists,not_and]
    refine ⟨(h w (by simp)).2.2,?_⟩
    rintro x ⟨y,hy,rfl⟩
    simp only [List.cons_append,List.nil_append,List.mem_cons,not_or]
    exact ⟨by decide,(h y (by simp [hy])).2.2⟩
theorem KO {ws:List (List UInt8)} (h:∀ w ∈ ws,(32:UInt8) ∉ w) (w:List UInt8) (hw:(32:UInt8) ∉ w):lU 32 (w++Lib.joinTail [32] ws)=w :: ws:=by
  induction ws generalizing w with
  | nil=>simp [Lib.joinTail,lI 32 hw]
  | cons x xs ih =>
    have e:w++Lib.joinTail [32] (x :: xs)=w++32 :: (x++Lib.joinTail [32] xs):=by simp [Lib.joinTail]
    rw [e,wu,lI 32 hw,ih (fun y hy=>h y (by simp [hy])) x (h x (by simp))]
    rfl
theorem zi {l:List UInt8} (h:(35:UInt8) ∉ l):l.takeWhile (· ≠ 35)=l:=by
  refine uX fun x hx=>?_
  simp only [ne_eq,decide_eq_true_eq]
  rintro rfl
  exact h hx
theorem Jc {ws:List (List UInt8)} (h:∀ w ∈ ws,plainW w):toks (Lib.join ws [32])=ws:=by
  unfold toks
  rw [zi (Jy h)]
  cases ws with
  | nil=>rfl
  | cons w r =>
    rw [Lib.join_cons,KO (fun y hy=>(h y (by simp [hy])).2.1) w (h w (by simp)).2.1,List.filter_eq_self]
    intro x hx
    simpa using (h x hx).1
theorem Gt {b:UInt8} (h:H6 b=true):b ≠ 10∧b ≠ 32∧b ≠ 35:=by
  refine ⟨?_,?_,?_⟩ <;> (rintro rfl;exact absurd h (by decide))
theorem Bo {w:List UInt8} (h:ve w=true) (h0:w ≠ []):plainW w∧(10:UInt8) ∉ w:=by
  simp only [ve,Bool.and_eq_true,List.all_eq_true] at h
  exact ⟨⟨h0,fun hm=>(Gt (h.2 _ hm)).2.1 rfl,fun hm=>(Gt (h.2 _ hm)).2.2 rfl⟩,fun hm=>(Gt (h.2 _ hm)).1 rfl⟩
theorem PK {ws:List (List UInt8)} (h:∀ w ∈ ws,(10:UInt8) ∉ w):(10:UInt8) ∉ Lib.join ws [32]:=by
  cases ws with
  | nil=>simp [Lib.join_nil]
  | cons w r =>
    rw [Lib.join_cons]
    unfold Lib.joinTail
    simp only [List.mem_append,List.mem_flatten,List.mem_map,not_or,not_exists,not_and]
    refine ⟨h w (by simp),?_⟩
    rintro x ⟨y,hy,rfl⟩
    simp only [List.cons_append,List.nil_append,List.mem_cons,not_or]
    exact ⟨by decide,h y (by simp [hy])⟩
def joinL (L:List (List (List UInt8))):List UInt8:=(L.map fun ws=>Lib.join ws [32]++[10]).flatten
theorem Jg {L:List (List (List UInt8))} (h:∀ ws ∈ L,∀ w ∈ ws,(10:UInt8) ∉ w):lU 10 (joinL L)=L.map (fun ws=>Lib.join ws [32])++[[]]:=by
  induction L with
  | nil=>rfl
  | cons x xs ih =>
    have e:joinL (x :: xs)=Lib.join x [32]++10 :: joinL xs:=by simp [joinL]
    rw [e,wu,lI 10 (PK (h x (by simp))),ih (fun y hy=>h y (by simp [hy]))]
    rfl
theorem Ot {L:List (List (List UInt8))} (h0:∀ ws ∈ L,ws ≠ []) (h:∀ ws ∈ L,∀ w ∈ ws,ve w=true∧w ≠ []):LR 0 [] (lU 10 (joinL L))=(L,0,0):=by
  have hp:∀ ws ∈ L,∀ w ∈ ws,plainW w:=fun ws hs w hw=>(Bo (h ws hs w hw).1 (h ws hs w hw).2).1
  have ht:∀ ws ∈ L,toks (Lib.join ws [32])=ws:=fun ws hs=>Jc (hp ws hs)
  rw [Jg (fun ws hs w hw=>(Bo (h ws hs w hw).1 (h ws hs w hw).2).2),GN]
  · have e:nZ (L.map fun ws=>Lib.join ws [32])=L:=by
      have:∀ M:List (List (List UInt8)),(∀ ws ∈ M,ws ≠ []∧toks (Lib.join ws [32])=ws)→nZ (M.map fun ws=>Lib.join ws [32])=M:=by
        intro M hM
        induction M with
        | nil=>rfl
        | cons x xs ih =>
          have hx:=hM x (by simp)
          have hi:=ih (fun y hy=>hM y (by simp [hy]))
          unfold nZ at hi ⊢
          rw [List.map_cons,List.flatMap_cons,hi,hx.2]
          unfold keep
          rw [if_neg hx.1]
          rfl
      exact this L fun ws hs=>⟨h0 ws hs,ht ws hs⟩
    rw [e]
    simp [LR,Gu,toks,lU,keep]
  · intro x hx
    obtain ⟨ws,hs,rfl⟩:=List.mem_map.1 hx
    unfold Gu
    rw [ht ws hs,List.all_eq_true]
    exact fun w hw=>(h ws hs w hw).1
theorem LQ {t ws:List (List UInt8)} (h:ws ∈ keep t):ws=t∧t ≠ []:=by
  unfold keep at h
  split at h
  · cases h
  · exact ⟨by simpa using h,by assumption⟩
theorem JV {xs:List (List UInt8)} (h:∀ x ∈ xs,Gu x=true) {ws:List (List UInt8)} (hs:ws ∈ nZ xs):ws ≠ []∧∀ w ∈ ws,ve w=true∧w ≠ []:=by
  unfold nZ at hs
  obtain ⟨x,hx,hk⟩:=List.mem_flatMap.1 hs
  obtain ⟨rfl,hn⟩:=LQ hk
  refine ⟨hn,fun w hw=>⟨?_,(Ec hw).1⟩⟩
  have:=h x hx
  unfold Gu at this
  exact List.all_eq_true.1 this w hw
theorem wG (ws:List (List UInt8)):(Lib.joinTail [32] ws).length=(ws.map fun w=>w.length+1).sum:=by
  induction ws with
  | nil=>rfl
  | cons w r ih =>
    have:Lib.joinTail [32] (w :: r)=32 :: w++Lib.joinTail [32] r:=by simp [Lib.joinTail]
    rw [this]
    simp only [List.length_append,List.length_cons,List.map_cons,List.sum_cons,ih]
theorem CO (c:UInt8) (l:List UInt8):((lU c l).map fun w=>w.length+1).sum=l.length+1:=by
  induction l with
  | nil=>rfl
  | cons x xs ih =>
    unfold lU
    split
    · simp only [List.map_cons,List.sum_cons,ih,List.length_nil,List.length_cons];omega
    · cases hs:lU c xs with
      | nil=>exact absurd hs (xu c xs)
      | cons y ys =>
        rw [hs] at ih
        simp only [List.headD_cons,List.tail_cons,List.map_cons,List.sum_cons,List.length_cons] at ih ⊢
        omega
theorem FP (L:List (List UInt8)) (p:List UInt8→Bool):((L.filter p).map fun w=>w.length+1).sum≤(L.map fun w=>w.length+1).sum:=by
  induction L with
  | nil=>simp
  | cons x xs ih =>
    rw [List.filter_cons]
    split
    · simp only [List.map_cons,List.sum_cons];omega
    · simp only [List.map_cons,List.sum_cons];omega
theorem LM (l:List UInt8):(Lib.join (toks l) [32]).length≤l.length:=by
  have h1:=FP (lU 32 (l.takeWhile (· ≠ 35))) (· ≠ [])
  rw [CO] at h1
  have h2:(l.takeWhile (· ≠ 35)).length≤l.length:=(List.takeWhile_prefix _).length_le
  have h3:((toks l).map fun w=>w.length+1).sum≤(l.takeWhile (· ≠ 35)).length+1:=h1
  cases ht:toks l with
  | nil=>simp [Lib.join_nil]
  | cons w r =>
    rw [ht] at h3
    rw [Lib.join_cons,List.length_append,wG]
    simp only [List.map_cons,List.sum_cons] at h3
    omega
theorem Jv (xs:List (List UInt8)):(joinL (nZ xs)).length≤(xs.map fun x=>x.length+1).sum:=by
  induction xs with
  | nil=>simp [nZ,joinL]
  | cons x xs ih =>
    have e:nZ (x :: xs)=keep (toks x)++nZ xs:=by simp [nZ]
    have e2:∀ a b,joinL (a++b)=joinL a++joinL b:=by intro a b;simp [joinL]
    rw [e,e2,List.length_append]
    simp only [List.map_cons,List.sum_cons]
    have h:=LM x
    have:(joinL (keep (toks x))).length≤x.length+1:=by
      unfold keep
      split
      · simp [joinL]
      · simp only [joinL,List.map_cons,List.map_nil,List.flatten_cons,List.flatten_nil,List.append_nil,List.length_append,List.length_cons,List.length_nil]
        omega
    omega
theorem Jw (l:List UInt8):(joinL (nZ (lU 10 l))).length≤l.length+1:=by
  have:=Jv (lU 10 l)
  rw [CO] at this
  exact this
end Go.Proofs.YtkclndkbccbhaaaGreatDoor.P
end
