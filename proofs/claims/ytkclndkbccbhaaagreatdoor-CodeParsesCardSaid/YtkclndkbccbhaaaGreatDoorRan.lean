/- Parts of the proof of CodeParses: what the functions that it reaches compute, and plain facts about that. -/
import Derived.Test.YtkclndkbccbhaaaGreatDoorRac
import Derived.Test.YtkclndkbccbhaaaGreatDoorRal
import Derived.Test.YtkclndkbccbhaaaGreatDoorRam
set_option linter.unusedVariables false
set_option linter.unusedSimpArgs false
section
namespace Go.Proofs.YtkclndkbccbhaaaGreatDoor.P
open Go.RowKit Go.Proofs.ag.bK Go.Proofs.ag.dV Go.Proofs.ag.fE
attribute [local go_sem] lI lG ny ni jW jV lH lF
mutual
def aG.l0:Nat→List ByteArray→Int→Option (Int × Int × Int × Int × Int × Bool)
  | 0,_,_=>none
  | k+1,x0,x4=>if x4≤15 then ((jl.f x4).bind fun Nq=>(if 0 < (x0.length:Int) then (if (eF ByteArray.empty x0 0).toList=Nq.1.toList then (aG.j1 k x0 x4 Nq.2 ((x0.length:Int) != (wrap64 ((Nq.2.size:Int)+1)))) else (aG.j1 k x0 x4 Nq.2 true)) else (none))) else (some (0,0,0,0,0,false))
def aG.j1:Nat→List ByteArray→Int→ByteArray→Bool→Option (Int × Int × Int × Int × Int × Bool)
  | 0,_,_,_,_=>none
  | k+1,x0,x4,x6,x34=>if x34=true then (aG.l0 k x0 ((x4+1) % 256)) else (aG.l1 k x0 x6 0 x4 0 0 0 0)
def aG.l1:Nat→List ByteArray→ByteArray→Int→Int→Int→Int→Int→Int→Option (Int × Int × Int × Int × Int × Bool)
  | 0,_,_,_,_,_,_,_,_=>none
  | k+1,x0,x6,x8,Kz,Ky,Kw,Kv,Ku=>if x8 < (x6.size:Int) then (if 0≤(wrap64 (x8+1)) then (if (wrap64 (x8+1)) < (x0.length:Int) then ((aC.f k (eF ByteArray.empty x0 (wrap64 (x8+1)))).bind fun IX=>(if 0≤x8 then ((aT.f k Kz Ky Kw Kv Ku (bt x6 x8) IX.1).bind fun qm=>(if IX.2=0 then (if qm.2.2.2.2.2=true then (aG.l1 k x0 x6 (wrap64 (x8+1)) qm.1 qm.2.1 qm.2.2.1 qm.2.2.2.1 qm.2.2.2.2.1) else (some (0,0,0,0,0,false))) else (some (0,0,0,0,0,false)))) else (none))) else (none)) else (none)) else (some (Kz,Ky,Kw,Kv,Ku,true))
end
def aG.f (k:Nat) (l0:List ByteArray):Option (Int × Int × Int × Int × Int × Bool):=aG.l0 k l0 1
theorem aG.iq:∀ k,(∀ y0 y1,dC (aG.l0 k y0 y1) (aG.l0 (k+1) y0 y1))∧(∀ y0 y1 y2 y3,dC (aG.j1 k y0 y1 y2 y3) (aG.j1 (k+1) y0 y1 y2 y3))∧(∀ y0 y1 y2 y3 y4 y5 y6 y7,dC (aG.l1 k y0 y1 y2 y3 y4 y5 y6 y7) (aG.l1 (k+1) y0 y1 y2 y3 y4 y5 y6 y7))
  | 0=>⟨fun _ _ r h=>by simp [aG.l0] at h,fun _ _ _ _ r h=>by simp [aG.j1] at h,fun _ _ _ _ _ _ _ _ r h=>by simp [aG.l1] at h⟩
  | k+1=>by
    obtain ⟨jY,ih1,ih2⟩:=aG.iq k
    refine ⟨?_,?_,?_⟩
    · intro y0 y1
      unfold aG.l0
      repeat' first
      | (with_reducible exact jY _ _)
      | (with_reducible exact ih1 _ _ _ _)
      | (with_reducible exact ih2 _ _ _ _ _ _ _ _)
      | (with_reducible exact aC.mono _ _)
      | (with_reducible exact aT.mono _ _ _ _ _ _ _ _)
      | (with_reducible exact dC.refl _)
      | (with_reducible exact dC.none _)
      | (with_reducible refine dC.ite ?_ ?_)
      | (with_reducible refine dC.bind ?_ (fun _=>?_))
      | exact jY _ _
      | exact ih1 _ _ _ _
      | exact ih2 _ _ _ _ _ _ _ _
      | exact aC.mono _ _
      | exact aT.mono _ _ _ _ _ _ _ _
      | exact dC.none _
      | refine dC.ite ?_ ?_
      | refine dC.bind ?_ (fun _=>?_)
    · intro y0 y1 y2 y3
      unfold aG.j1
      repeat' first
      | (with_reducible exact jY _ _)
      | (with_reducible exact ih1 _ _ _ _)
      | (with_reducible exact ih2 _ _ _ _ _ _ _ _)
      | (with_reducible exact aC.mono _ _)
      | (with_reducible exact aT.mono _ _ _ _ _ _ _ _)
      | (with_reducible exact dC.refl _)
      | (with_reducible exact dC.none _)
      | (with_reducible refine dC.ite ?_ ?_)
      | (with_reducible refine dC.bind ?_ (fun _=>?_))
      | exact jY _ _
      | exact ih1 _ _ _ _
      | exact ih2 _ _ _ _ _ _ _ _
      | exact aC.mono _ _
      | exact aT.mono _ _ _ _ _ _ _ _
      | exact dC.none _
      | refine dC.ite ?_ ?_
      | refine dC.bind ?_ (fun _=>?_)
    · intro y0 y1 y2 y3 y4 y5 y6 y7
      unfold aG.l1
      repeat' first
      | (with_reducible exact jY _ _)
      | (with_reducible exact ih1 _ _ _ _)
      | (with_reducible exact ih2 _ _ _ _ _ _ _ _)
      | (with_reducible exact aC.mono _ _)
      | (with_reducible exact aT.mono _ _ _ _ _ _ _ _)
      | (with_reducible exact dC.refl _)
      | (with_reducible exact dC.none _)
      | (with_reducible refine dC.ite ?_ ?_)
      | (with_reducible refine dC.bind ?_ (fun _=>?_))
      | exact jY _ _
      | exact ih1 _ _ _ _
      | exact ih2 _ _ _ _ _ _ _ _
      | exact aC.mono _ _
      | exact aT.mono _ _ _ _ _ _ _ _
      | exact dC.none _
      | refine dC.ite ?_ ?_
      | refine dC.bind ?_ (fun _=>?_)
theorem aG.mono:∀ a0 k,dC (aG.f k a0) (aG.f (k+1) a0):=by
  intro a0 k
  obtain ⟨jY,ih1,ih2⟩:=aG.iq k
  unfold aG.f
  repeat' first
      | (with_reducible exact jY _ _)
      | (with_reducible exact ih1 _ _ _ _)
      | (with_reducible exact ih2 _ _ _ _ _ _ _ _)
      | (with_reducible exact aC.mono _ _)
      | (with_reducible exact aT.mono _ _ _ _ _ _ _ _)
      | (with_reducible exact dC.refl _)
      | (with_reducible exact dC.none _)
      | (with_reducible refine dC.ite ?_ ?_)
      | (with_reducible refine dC.bind ?_ (fun _=>?_))
      | exact jY _ _
      | exact ih1 _ _ _ _
      | exact ih2 _ _ _ _ _ _ _ _
      | exact aC.mono _ _
      | exact aT.mono _ _ _ _ _ _ _ _
      | exact dC.none _
      | refine dC.ite ?_ ?_
      | refine dC.bind ?_ (fun _=>?_)
def aG.T11:Bool × List (List Nat × List Nat):=(true,[([],[]),([],[]),([],[]),([1,2],[1,2]),([],[]),([0,3,4],[0,3,4]),([5],[5]),([6],[6]),([6],[6]),([],[]),([9,7,5,0,1,2,3,4,5,6,7,9],[7,9]),([8,10,0,1,2,3,4,5,6,7,8,9,10],[8])])
def aG.B11:List Nat:=[0,0,0,6,0,31,63,127,127,0,767,2047]
theorem aG.PI:rJ .any (opsOf Tryz.f28 11)=aG.T11:=by kernel_rfl
theorem aG.JW:sS aG.T11.2 aG.B11=true:=by kernel_rfl
set_option maxHeartbeats 8000000 in
set_option maxRecDepth 100000 in
theorem aG.calls (k:Nat) (A0:Option Addr) (c0:Nat) (l0:List ByteArray) (r1:Int) (r2:Int) (r3:Int) (r4:Int) (r5:Int) (r6:Bool) (w:World) (hr0:Kd.C Kd.string w A0 l0.length l0) (hc0:l0.length≤c0) (h:aG.f k l0=some (r1,r2,r3,r4,r5,r6)) :
    Calls Tryz.prog 28 #[.slice A0 l0.length c0] w fun e w'=>e=.returned (.tuple #[.agg #[.int .u8 r1,.int .u8 r2,.int .u8 r3,.int .u8 r4,.int .i64 r5],.bool r6])∧Below w.heap.size w w':=by
  have Oz:=Tryz.underlying27
  have HR0:=ae.mk hr0
  have HC0:=ae.mk hc0
  clear hr0 hc0
  have HB:=ae.mk (Below.refl w.heap.size w)
  have H:(aG.l0 k l0 1)=some (r1,r2,r3,r4,r5,r6):=h
  clear h
  have H':=ae.mk H
  clear H
  go_enter Tryz.func28,Tryz.ntmps28
  go_wp2_with (first|((with_reducible refine fF (N:=2) rfl ?_);(try (refine iU (by rfl) ?_;dsimp only));refine gu ?hg (N:=2) ?hd (cs:=#[.int .u8 0,.int .u8 0,.int .u8 0,.int .u8 0,.int .i64 0]) (t:=27) ?hr ?_;(case hd=>rfl);(case hg=>rfl);(case hr=>first|(go_simp;done)|(go_simp;rfl));intro eQ hg w2 hbox hb;have dG:=ae.mk (bf (by repeat (first|(with_reducible first|exact HB.out|apply au|apply af|apply aj)|exact HB.out)) hb);have dM:=ae.mk (hbox);have dW:=ae.mk ((by rw [hg];exact (aZ (by repeat (first|(with_reducible first|exact HB.out|apply au|apply af|apply aj)|exact HB.out))):w.heap.size≤eQ));have fK:=ae.mk ((by rw [hg];exact (aZ (by repeat (first|(with_reducible first|exact HB.out|apply au|apply af|apply aj)|exact HB.out))):w.heap.size≤eQ));clear HB;have HB:=dG;have dw:=dM;have amn:=dW;have jv:=fK;clear dG dM dW fK;clear hb hbox hg))
  go_loopg [4] k (fun kq v4 w'=>∃ (iT:Int) (oD:Int) (nN:Int) (l7:Int) (lT:Int) (lh:Int),v4=.int .u8 iT∧ae (aG.l0 kq l0 iT=some (r1,r2,r3,r4,r5,r6))∧ae (kq≤k)∧ae (w'.heap[eQ]? = some (.cells #[.int .u8 oD,.int .u8 nN,.int .u8 l7,.int .u8 lT,.int .i64 lh] 27 (0,0)))∧ae (Below w.heap.size w w'))
  case atStart=>exact ⟨(1),(0),(0),(0),(0),(0),(by first|rfl|(simp;done)|(simp [*];done)),H',⟨Nat.le_refl _⟩,⟨by (with_reducible repeat (first|refine ah ?_ _|refine ak ?_|refine ai ?_ _));exact dw.out⟩,⟨by repeat (first|(with_reducible first|exact HB.out|apply au|apply af|apply aj|refine az ?_ jv.out)|exact HB.out)⟩⟩
  case round =>
    clear H'
    try clear c2
    try clear p2
    obtain ⟨iT,oD,nN,l7,lT,lh,rfl,HA,pJ,dw,HB⟩:=hrel
    cases gk with
    | zero=>exact absurd HA.out (by simp [aG.l0])
    | succ k1 =>
      have H:=HA.out
      clear HA
      simp only [aG.l0] at H
      by_cases c3:iT≤15
      · rw [if_pos c3] at H
        have rW:decide (iT≤15)=true:=decide_eq_true c3
        clear c3
        replace H:=Option.bind_eq_some_iff.mp H
        obtain ⟨⟨t216,t217⟩,A40,H⟩:=H
        replace H:(if 0 < (l0.length:Int) then (if (eF ByteArray.empty l0 0).toList=t216.toList then (aG.j1 k1 l0 iT t217 ((l0.length:Int) != (wrap64 ((t217.size:Int)+1)))) else (aG.j1 k1 l0 iT t217 true)) else (none))=some (r1,r2,r3,r4,r5,r6):=H
        have A4:=ae.mk A40
        clear A40
        have HC5:=ae.mk H
        clear H
        go_upto_region 5 with (first|((with_reducible refine bQ (f:=27) rfl ?_);refine fZ (some 19) rfl rfl Tryz.func27 (by kernel_rfl) rfl #[.int .u8 iT] rfl (by (try simp only [List.map_toArray,List.map_cons,List.map_nil]);first|done|rfl|(simp only [List.length_drop,List.length_take];rfl)) ?_;(with_reducible refine (jl.calls iT t216 t217 _ A4.out).mono ?_);rintro e w' ⟨rfl,⟨nd,rfl⟩⟩;refine ⟨_,rfl,?_⟩))
        (try simp only [Act.put,List.setIfInBounds_toArray,List.set_cons_zero,List.set_cons_succ])
        go_cut [34] (fun v34 wc=>∃ (kq:Nat) (Ko:Bool),v34=.bool Ko∧ae (aG.j1 kq l0 iT t217 Ko=some (r1,r2,r3,r4,r5,r6))∧ae (kq≤k1)∧ae (wc.heap[eQ]? = some (.cells #[.int .u8 oD,.int .u8 nN,.int .u8 l7,.int .u8 lT,.int .i64 lh] 27 (0,0)))∧ae (Below w.heap.size w wc))
        case first =>
          have H:=HC5.out
          clear HC5
          by_cases c6:0 < (l0.length:Int)
          · rw [if_pos c6] at H
            have oP:decide (0 < (l0.length:Int))=true:=decide_eq_true c6
            have zx:decide (0 < l0.length)=true:=decide_eq_true (by omega)
            clear c6
            (first|rw [oP]|(simp only [aN,aQ];rw [oP])|skip)
            by_cases c7:(eF ByteArray.empty l0 0).toList=t216.toList
            · rw [if_pos c7] at H
              have qR:((eF ByteArray.empty l0 0).toList == t216.toList)=true:=beq_iff_eq.mpr c7
              have xy:((eF ByteArray.empty l0 0).toList != t216.toList)=false:=bne_eq_false_iff_eq.mpr c7
              clear c7
              have H':=ae.mk H
              clear H
              have F7:0≤(0:Int):=(by omega)
              have F5:0 < (l0.length:Int):=of_decide_eq_true (by first|(with_reducible assumption)|assumption)
              obtain ⟨acy,aai,o6⟩:=Kd.fO HR0.out 0 F7 F5
              cases aai
              have abp:(0 < l0.length)=True:=eq_true (by omega)
              (try rw [show ((0:Int)).toNat=0 from rfl] at o6)
              (try rw [Addr.add_zero'] at o6)
              replace o6:=(HB.out.cell (World.block_lt_of_cell? w _ o6)).trans o6
              replace F7:=eq_true F7
              replace F5:=eq_true F5
              go_wp2
              go_meet
              case rel=>exact ⟨_,(((l0.length:Int) != (wrap64 ((t217.size:Int)+1)))),(by first|rfl|(simp;done)|(simp [*];done)),H',⟨by have:=pJ.out;first|omega|exact Nat.le_refl _⟩,⟨by (with_reducible repeat (first|refine ah ?_ _|refine ak ?_|refine ai ?_ _));exact dw.out⟩,⟨by repeat (first|(with_reducible first|exact HB.out|apply au|apply af|apply aj|refine az ?_ jv.out)|exact HB.out)⟩⟩
            · rw [if_neg c7] at H
              have qR:((eF ByteArray.empty l0 0).toList == t216.toList)=false:=beq_eq_false_iff_ne.mpr c7
              have xy:((eF ByteArray.empty l0 0).toList != t216.toList)=true:=bne_iff_ne.mpr c7
              have H':=ae.mk H
              clear H
              have F7:0≤(0:Int):=(by omega)
              have F5:0 < (l0.length:Int):=of_decide_eq_true (by first|(with_reducible assumption)|assumption)
              obtain ⟨acy,aai,o6⟩:=Kd.fO HR0.out 0 F7 F5
              cases aai
              have abp:(0 < l0.length)=True:=eq_true (by omega)
              (try rw [show ((0:Int)).toNat=0 from rfl] at o6)
              (try rw [Addr.add_zero'] at o6)
              replace o6:=(HB.out.cell (World.block_lt_of_cell? w _ o6)).trans o6
              replace F7:=eq_true F7
              replace F5:=eq_true F5
              go_wp2
              go_meet
              case rel=>exact ⟨_,(true),(by first|rfl|(simp;done)|(simp [*];done)),H',⟨by have:=pJ.out;first|omega|exact Nat.le_refl _⟩,⟨by (with_reducible repeat (first|refine ah ?_ _|refine ak ?_|refine ai ?_ _));exact dw.out⟩,⟨by repeat (first|(with_reducible first|exact HB.out|apply au|apply af|apply aj|refine az ?_ jv.out)|exact HB.out)⟩⟩
          · rw [if_neg c6] at H
            exact absurd H (by simp)
        case rest =>
          clear HC5
          try clear c2
          try clear p2
          try clear q2
          try clear hx2
          try clear qi2
          try clear c3
          try clear rW
          try clear c6
          try clear oP
          try clear zx
          try clear p6
          try clear c7
          try clear qR
          try clear xy
          try clear o6
          try clear p2
          try clear F7
          try clear F5
          obtain ⟨kq,Ko,rfl,HA,HJ4,dw,HB⟩:=hcut
          cases kq with
          | zero=>exact absurd HA.out (by simp [aG.j1])
          | succ Pn =>
            have H:=HA.out
            clear HA
            simp only [aG.j1] at H
            by_cases c8:Ko=true
            · subst c8
              have H1:(aG.l0 Pn l0 ((iT+1) % 256))=some (r1,r2,r3,r4,r5,r6):=by rw [if_pos rfl] at H;exact H
              clear H
              have H:=H1
              clear H1
              have H':=ae.mk H
              clear H
              go_wp2
              go_roundg Pn
              case measure=>have:=pJ.out;have:=HJ4.out;omega
              case rel=>exact ⟨((iT+1) % 256),(oD),(nN),(l7),(lT),(lh),(by first|rfl|(simp;done)|(simp [*];done)),H',⟨by have:=pJ.out;have:=HJ4.out;omega⟩,⟨by (with_reducible repeat (first|refine ah ?_ _|refine ak ?_|refine ai ?_ _));exact dw.out⟩,⟨by repeat (first|(with_reducible first|exact HB.out|apply au|apply af|apply aj|refine az ?_ jv.out)|exact HB.out)⟩⟩
            · replace c8:=Bool.eq_false_iff.mpr c8
              subst c8
              have H1:(aG.l1 Pn l0 t217 0 iT 0 0 0 0)=some (r1,r2,r3,r4,r5,r6):=by rw [if_neg (show ¬ (false=true) by decide)] at H;exact H
              clear H
              have H:=H1
              clear H1
              have H':=ae.mk H
              clear H
              go_wp2_with (first|((with_reducible refine fF (N:=7) rfl ?_);(try (refine iU (by rfl) ?_;dsimp only));refine gu ?hg (N:=7) ?hd (cs:=#[.int .u8 0,.int .u8 0,.int .u8 0,.int .u8 0,.int .i64 0]) (t:=27) ?hr ?_;(case hd=>rfl);(case hg=>rfl);(case hr=>first|(go_simp;done)|(go_simp;rfl));intro dI hg w9 hbox hb;have dG:=ae.mk (bH (g:=eQ) (o:=.cells #[.int .u8 oD,.int .u8 nN,.int .u8 l7,.int .u8 lT,.int .i64 lh] 27 (0,0)) (by (with_reducible repeat (first|refine ah ?_ _|refine ak ?_|refine ai ?_ _));exact dw.out) hb);have dM:=ae.mk (bf (by repeat (first|(with_reducible first|exact HB.out|apply au|apply af|apply aj|refine az ?_ jv.out)|exact HB.out)) hb);have dW:=ae.mk (hbox);have fK:=ae.mk ((by rw [hg];exact (aZ (by repeat (first|(with_reducible first|exact HB.out|apply au|apply af|apply aj|refine az ?_ jv.out)|exact HB.out))):w.heap.size≤dI));have iO:=ae.mk ((by rw [hg];exact (aZ (by repeat (first|(with_reducible first|exact HB.out|apply au|apply af|apply aj|refine az ?_ jv.out)|exact HB.out))):w.heap.size≤dI));have jE:=ae.mk ((by rw [hg];exact Nat.ne_of_lt (gG (g:=eQ) (o:=.cells #[.int .u8 oD,.int .u8 nN,.int .u8 l7,.int .u8 lT,.int .i64 lh] 27 (0,0)) (by (with_reducible repeat (first|refine ah ?_ _|refine ak ?_|refine ai ?_ _));exact dw.out)):eQ ≠ dI));have lg:=ae.mk ((by rw [hg];exact Nat.ne_of_gt (gG (g:=eQ) (o:=.cells #[.int .u8 oD,.int .u8 nN,.int .u8 l7,.int .u8 lT,.int .i64 lh] 27 (0,0)) (by (with_reducible repeat (first|refine ah ?_ _|refine ak ?_|refine ai ?_ _));exact dw.out)):dI ≠ eQ));clear dw;clear HB;have dw:=dG;have HB:=dM;have bP:=dW;have amm:=fK;have ku:=iO;have kR:=jE;have vS:=lg;clear dG dM dW fK iO jE lg;clear hb hbox hg;have alG:=vS.out;have ald:=kR.out;have Na:w9.cell? ⟨dI,0,none⟩=some (.int .u8 0):=(ax bP.out 0).trans rfl;have MZ:w9.cell? ⟨dI,1,none⟩=some (.int .u8 0):=(ax bP.out 1).trans rfl;have MX:w9.cell? ⟨dI,2,none⟩=some (.int .u8 0):=(ax bP.out 2).trans rfl;have MW:w9.cell? ⟨dI,3,none⟩=some (.int .u8 0):=(ax bP.out 3).trans rfl;have Xk:w9.cell? ⟨dI,4,none⟩=some (.int .i64 0):=(ax bP.out 4).trans rfl;have MB:=ay bP.out 0;have Me:=ay bP.out 1;have Md:=ay bP.out 2;have Mc:=ay bP.out 3;have VI:=ay bP.out 4))
              go_loopg [8] Pn (fun kq v8 w'=>∃ (oK:Int) (eu:Int) (dU:Int) (dN:Int) (dK:Int) (dE:Int) (dh:Int) (df:Int) (cZ:Int) (cO:Int) (cu:Int),v8=.int .i64 oK∧ae (aG.l1 kq l0 t217 oK dh df cZ cO cu=some (r1,r2,r3,r4,r5,r6))∧ae (kq≤Pn)∧ae (w'.heap[eQ]? = some (.cells #[.int .u8 eu,.int .u8 dU,.int .u8 dN,.int .u8 dK,.int .i64 dE] 27 (0,0)))∧ae (w'.heap[dI]? = some (.cells #[.int .u8 dh,.int .u8 df,.int .u8 cZ,.int .u8 cO,.int .i64 cu] 27 (0,0)))∧ae (Below w.heap.size w w'))
              case atStart=>exact ⟨(0),(oD),(nN),(l7),(lT),(lh),(iT),(0),(0),(0),(0),(by first|rfl|(simp;done)|(simp [*];done)),H',⟨Nat.le_refl _⟩,⟨by (with_reducible repeat (first|refine ah ?_ _|refine ak ?_|refine ai ?_ _));refine di ?_ kR.out _;(with_reducible repeat (first|refine ah ?_ _|refine ak ?_|refine ai ?_ _));refine di ?_ kR.out _;(with_reducible repeat (first|refine ah ?_ _|refine ak ?_|refine ai ?_ _));refine di ?_ kR.out _;(with_reducible repeat (first|refine ah ?_ _|refine ak ?_|refine ai ?_ _));refine di ?_ kR.out _;(with_reducible repeat (first|refine ah ?_ _|refine ak ?_|refine ai ?_ _));refine di ?_ kR.out _;(with_reducible repeat (first|refine ah ?_ _|refine ak ?_|refine ai ?_ _));exact dw.out⟩,⟨by (with_reducible repeat (first|refine ah ?_ _|refine ak ?_|refine ai ?_ _));refine bu (cs:=#[.int .u8 iT,.int .u8 0,.int .u8 0,.int .u8 0,.int .i64 0]) ?_ 4 _ rfl;(with_reducible repeat (first|refine ah ?_ _|refine ak ?_|refine ai ?_ _));refine bu (cs:=#[.int .u8 iT,.int .u8 0,.int .u8 0,.int .u8 0,.int .i64 0]) ?_ 3 _ rfl;(with_reducible repeat (first|refine ah ?_ _|refine ak ?_|refine ai ?_ _));refine bu (cs:=#[.int .u8 iT,.int .u8 0,.int .u8 0,.int .u8 0,.int .i64 0]) ?_ 2 _ rfl;(with_reducible repeat (first|refine ah ?_ _|refine ak ?_|refine ai ?_ _));refine bu (cs:=#[.int .u8 iT,.int .u8 0,.int .u8 0,.int .u8 0,.int .i64 0]) ?_ 1 _ rfl;(with_reducible repeat (first|refine ah ?_ _|refine ak ?_|refine ai ?_ _));refine bu (cs:=#[.int .u8 0,.int .u8 0,.int .u8 0,.int .u8 0,.int .i64 0]) ?_ 0 _ rfl;(with_reducible repeat (first|refine ah ?_ _|refine ak ?_|refine ai ?_ _));exact bP.out⟩,⟨by repeat (first|(with_reducible first|exact HB.out|apply au|apply af|apply aj|refine az ?_ jv.out|refine az ?_ ku.out)|exact HB.out)⟩⟩
              case round =>
                clear H'
                try clear c1
                try clear c2
                try clear p2
                try clear q2
                try clear hx2
                try clear qi2
                try clear c3
                try clear rW
                try clear c6
                try clear oP
                try clear zx
                try clear p6
                try clear c7
                try clear qR
                try clear xy
                try clear c8
                try clear c10
                try clear Na
                try clear MZ
                try clear MX
                try clear MW
                try clear Xk
                try clear MB
                try clear Me
                try clear Md
                try clear Mc
                try clear VI
                try clear o6
                try clear p2
                try clear F7
                try clear p6
                try clear q2
                try clear F5
                obtain ⟨oK,eu,dU,dN,dK,dE,dh,df,cZ,cO,cu,rfl,HA,J3,dw,bP,HB⟩:=hrel
                cases gk with
                | zero=>exact absurd HA.out (by simp [aG.l1])
                | succ k3 =>
                  have H:=HA.out
                  clear HA
                  simp only [aG.l1] at H
                  by_cases c12:oK < (t217.size:Int)
                  · rw [if_pos c12] at H
                    have BJ:decide (oK < (t217.size:Int))=true:=decide_eq_true c12
                    clear c12
                    obtain ⟨qZ,zX⟩:∃ j_:Int,(wrap64 (oK+1))=j_:=⟨_,rfl⟩
                    replace H:(if 0≤(qZ) then (if (qZ) < (l0.length:Int) then ((aC.f k3 (eF ByteArray.empty l0 (qZ))).bind fun IX=>(if 0≤oK then ((aT.f k3 dh df cZ cO cu (bt t217 oK) IX.1).bind fun qm=>(if IX.2=0 then (if qm.2.2.2.2.2=true then (aG.l1 k3 l0 t217 qZ qm.1 qm.2.1 qm.2.2.1 qm.2.2.2.1 qm.2.2.2.2.1) else (some (0,0,0,0,0,false))) else (some (0,0,0,0,0,false)))) else (none))) else (none)) else (none))=some (r1,r2,r3,r4,r5,r6):=by first|(rw [zX] at H;exact H)|(simp only [zX] at H ⊢;exact H)
                    have ajI:(IntKind.i64.wrap (oK+1))=qZ:=(aN _).trans zX
                    by_cases c14:0≤(qZ)
                    · rw [if_pos c14] at H
                      have vH:decide (0≤(qZ))=true:=decide_eq_true c14
                      clear c14
                      by_cases c15:(qZ) < (l0.length:Int)
                      · rw [if_pos c15] at H
                        have vG:decide ((qZ) < (l0.length:Int))=true:=decide_eq_true c15
                        clear c15
                        replace H:=Option.bind_eq_some_iff.mp H
                        obtain ⟨⟨t221,t222⟩,Ep,H⟩:=H
                        replace H:(if 0≤oK then ((aT.f k3 dh df cZ cO cu (bt t217 oK) t221).bind fun qm=>(if t222=0 then (if qm.2.2.2.2.2=true then (aG.l1 k3 l0 t217 qZ qm.1 qm.2.1 qm.2.2.1 qm.2.2.2.1 qm.2.2.2.2.1) else (some (0,0,0,0,0,false))) else (some (0,0,0,0,0,false)))) else (none))=some (r1,r2,r3,r4,r5,r6):=H
                        have Tc:=ae.mk Ep
                        clear Ep
                        by_cases c17:0≤oK
                        · rw [if_pos c17] at H
                          have D7:decide (0≤oK)=true:=decide_eq_true c17
                          clear c17
                          replace H:=Option.bind_eq_some_iff.mp H
                          obtain ⟨⟨t223,t224,t225,t226,t227,t228⟩,adJ,H⟩:=H
                          replace H:(if t222=0 then (if t228=true then (aG.l1 k3 l0 t217 qZ t223 t224 t225 t226 t227) else (some (0,0,0,0,0,false))) else (some (0,0,0,0,0,false)))=some (r1,r2,r3,r4,r5,r6):=H
                          have A19:=ae.mk adJ
                          clear adJ
                          by_cases c20:t222=0
                          · rw [if_pos c20] at H
                            have RZ:(t222 == 0)=true:=beq_iff_eq.mpr c20
                            have RY:(t222 != 0)=false:=bne_eq_false_iff_eq.mpr c20
                            clear c20
                            by_cases c21:t228=true
                            · subst c21
                              have H1:(aG.l1 k3 l0 t217 qZ t223 t224 t225 t226 t227)=some (r1,r2,r3,r4,r5,r6):=by rw [if_pos rfl] at H;exact H
                              clear H
                              have H:=H1
                              clear H1
                              have H':=ae.mk H
                              clear H
                              have DC:0≤((qZ):Int):=of_decide_eq_true (by first|(with_reducible assumption)|assumption)
                              have Dw:(qZ) < (l0.length:Int):=of_decide_eq_true (by first|(with_reducible assumption)|assumption)
                              obtain ⟨YH,e220,qA⟩:=Kd.fO HR0.out (qZ) DC Dw
                              cases e220
                              replace qA:=(HB.out.cell (World.block_lt_of_cell? w _ qA)).trans qA
                              replace DC:=eq_true DC
                              replace Dw:=eq_true Dw
                              try go_wp2_with (first|((with_reducible refine bQ (f:=47) rfl ?_);refine fZ (some 49) rfl rfl Tryz.func47 (by kernel_rfl) rfl #[.string (eF ByteArray.empty l0 (qZ))] rfl (by (try simp only [List.map_toArray,List.map_cons,List.map_nil]);first|done|(simp only [zX];rfl)|rfl|(simp only [List.length_drop,List.length_take];rfl)) ?_;(with_reducible refine (aC.calls k3 (eF ByteArray.empty l0 (qZ)) t221 t222 _ Tc.out).mono ?_);rintro e w' ⟨rfl,⟨nd,rfl⟩⟩;refine ⟨_,rfl,?_⟩;(try (rw [mY wr];generalize qg:World.drewN wr _=wr;have dG:ae (wr.heap[eQ]? = some (.cells #[.int .u8 eu,.int .u8 dU,.int .u8 dN,.int .u8 dK,.int .i64 dE] 27 (0,0))):=⟨by rw [← qg];exact (by (with_reducible repeat (first|refine ah ?_ _|refine ak ?_|refine ai ?_ _));exact dw.out)⟩;have dM:ae (wr.heap[dI]? = some (.cells #[.int .u8 dh,.int .u8 df,.int .u8 cZ,.int .u8 cO,.int .i64 cu] 27 (0,0))):=⟨by rw [← qg];exact (by (with_reducible repeat (first|refine ah ?_ _|refine ak ?_|refine ai ?_ _));exact bP.out)⟩;have dW:ae (Below w.heap.size w wr):=⟨by rw [← qg];exact (by repeat (first|(with_reducible first|exact HB.out|apply au|apply af|apply aj|refine az ?_ jv.out|refine az ?_ ku.out)|exact HB.out))⟩;clear dw bP HB qg;have dw:=dG;have bP:=dM;have HB:=dW;clear dG dM dW))))
                              have dG:=ae.mk (ak dw.out)
                              have dM:=ae.mk (ak bP.out)
                              have dW:=ae.mk (aj HB.out)
                              clear dw
                              clear bP
                              clear HB
                              have dw:=dG
                              have bP:=dM
                              have HB:=dW
                              clear dG dM dW
                              have Ia:0≤(oK:Int):=of_decide_eq_true (by first|(with_reducible assumption)|assumption)
                              have H7:oK < (t217.size:Int):=of_decide_eq_true (by first|(with_reducible assumption)|assumption)
                              have Qp:=kS t217 oK
                              replace Ia:=eq_true Ia
                              replace H7:=eq_true H7
                              refine sD (n:=12) (S:=fun w'=>w'.cell? ⟨dI,0,none⟩=some (.int .u8 dh)∧w'.cell? ⟨dI,1,none⟩=some (.int .u8 df)∧w'.cell? ⟨dI,2,none⟩=some (.int .u8 cZ)∧w'.cell? ⟨dI,3,none⟩=some (.int .u8 cO)∧w'.cell? ⟨dI,4,none⟩=some (.int .i64 cu)) (ds:=[]) #[false,false,false,false,false,false,false,false,false,false,false,false] (by kernel_rfl) rfl rfl ⟨(ax bP.out 0).trans rfl,(ax bP.out 1).trans rfl,(ax bP.out 2).trans rfl,(ax bP.out 3).trans rfl,(ax bP.out 4).trans rfl⟩ (fun hHeld=>?_);refine l9 aG.PI aG.JW (fun dR oJ=>?_)
                              generalize wr.drew=X7 at dw bP HB hHeld ⊢
                              refine bJ (i:=1) (N:=some 54) (v:=?_) (a':=?_) #[false,true,false,false,false,false,false,false,false,false,false,false] rfl rfl (aW dR.out (by kernel_rfl)) (fun _ _ _ h=>h) (Or.inl ⟨by rfl,?_⟩) ?_ ?_
                              rotate_left
                              · intro w'
                                go_simp
                                with_reducible rfl
                              rotate_left
                              · simp only [Act.put,List.setIfInBounds_toArray,List.set_cons_zero,List.set_cons_succ,aN,aQ]
                                rfl
                              refine bJ (i:=2) (N:=some 55) (v:=?_) (a':=?_) #[false,true,true,false,false,false,false,false,false,false,false,false] rfl rfl (aW dR.out (by kernel_rfl)) (fun _ _ _ h=>h) (Or.inl ⟨by rfl,?_⟩) ?_ ?_
                              rotate_left
                              · intro w'
                                go_simp
                                with_reducible rfl
                              rotate_left
                              · simp only [Act.put,List.setIfInBounds_toArray,List.set_cons_zero,List.set_cons_succ,aN,aQ]
                                rfl
                              refine bJ (i:=4) (N:=some 57) (v:=?_) (a':=?_) #[false,true,true,false,true,false,false,false,false,false,false,false] rfl rfl (aW dR.out (by kernel_rfl)) (fun _ _ _ h=>h) (Or.inl ⟨by rfl,?_⟩) ?_ ?_
                              rotate_left
                              · intro w'
                                go_simp
                                with_reducible rfl
                              rotate_left
                              · simp only [Act.put,List.setIfInBounds_toArray,List.set_cons_zero,List.set_cons_succ,aN,aQ]
                                rfl
                              refine iK (i:=0) (N:=some 53) (v:=?_) (a':=?_) #[true,true,true,false,true,false,false,false,false,false,false,false] rfl rfl (dH dR.out oJ.out (by kernel_rfl)) (fun _ _ _ h=>h) (Or.inl ⟨by rfl,?_⟩) hHeld ?_ ?_
                              rotate_left
                              · rintro w' ⟨s0,s1,s2,s3,s4⟩
                                go_simp
                                with_reducible rfl
                              rotate_left
                              · simp only [Act.put,List.setIfInBounds_toArray,List.set_cons_zero,List.set_cons_succ,aN,aQ]
                                rfl
                              refine iK (i:=3) (N:=some 56) (v:=?_) (a':=?_) #[true,true,true,true,true,false,false,false,false,false,false,false] rfl rfl (dH dR.out oJ.out (by kernel_rfl)) (fun _ _ _ h=>h) (Or.inl ⟨by rfl,?_⟩) hHeld ?_ ?_
                              rotate_left
                              · rintro w' ⟨s0,s1,s2,s3,s4⟩
                                go_simp
                                with_reducible rfl
                              rotate_left
                              · simp only [Act.put,List.setIfInBounds_toArray,List.set_cons_zero,List.set_cons_succ,aN,aQ]
                                rfl
                              refine Lh (σ:=Nat) 2 #[true,true,true,true,true,true,true,true,true,true,false,false] (fun s_=>[(58,.tuple #[.agg #[.int .u8 t223,.int .u8 t224,.int .u8 t225,.int .u8 t226,.int .i64 t227],.bool true]),(11,.pointer (some ⟨s_,0,none⟩)),(52,.tuple #[.agg #[.int .u8 t223,.int .u8 t224,.int .u8 t225,.int .u8 t226,.int .i64 t227],.bool true]),(59,.agg #[.int .u8 t223,.int .u8 t224,.int .u8 t225,.int .u8 t226,.int .i64 t227]),(60,.bool true)]) (fun s_ w'=>(w'.cell? ⟨dI,0,none⟩=some (.int .u8 dh)∧w'.cell? ⟨dI,1,none⟩=some (.int .u8 df)∧w'.cell? ⟨dI,2,none⟩=some (.int .u8 cZ)∧w'.cell? ⟨dI,3,none⟩=some (.int .u8 cO)∧w'.cell? ⟨dI,4,none⟩=some (.int .i64 cu))∧(w'.heap[eQ]? = some (.cells #[.int .u8 eu,.int .u8 dU,.int .u8 dN,.int .u8 dK,.int .i64 dE] 27 (0,0)))∧(w'.heap[dI]? = some (.cells #[.int .u8 dh,.int .u8 df,.int .u8 cZ,.int .u8 cO,.int .i64 cu] 27 (0,0)))∧(w'.heap[s_]? = some (.cells #[.int .u8 0,.int .u8 0,.int .u8 0,.int .u8 0,.int .i64 0] 27 (0,0)))∧(w.heap.size≤s_)∧(w.heap.size≤s_)∧(eQ ≠ s_)∧(s_ ≠ eQ)∧(dI ≠ s_)∧(s_ ≠ dI)∧(Below w.heap.size w w')) ?_ ?_
                              rotate_left
                              · intro xk
                                refine Py (i:=5) (j:=9) (Ni:=some 58) (Nj:=some 11) #[true,true,true,true,true,true,false,false,false,false,false,false] #[true,true,true,true,true,false,false,false,false,true,false,false] rfl rfl rfl rfl (Dh dR.out (by kernel_rfl)) (by decide) (by decide) (fun K hK=>?_) (fun K hK=>?_)
                                · skip
                                  refine sO Tryz.func48 (by kernel_rfl) rfl #[.agg #[.int .u8 dh,.int .u8 df,.int .u8 cZ,.int .u8 cO,.int .i64 cu],.int .u8 (bt t217 oK),.int .i64 t221] (by rfl) rfl rfl (by (try simp only [List.map_toArray,List.map_cons,List.map_nil]);first|done|rfl|(simp only [List.length_drop,List.length_take];rfl)) ?_
                                  with_reducible refine (aT.calls k3 dh df cZ cO cu (bt t217 oK) t221 t223 t224 t225 t226 t227 true _ A19.out).mono ?_
                                  rintro e Jh ⟨rfl,hb⟩
                                  refine ⟨_,rfl,?_⟩
                                  have dG:=ae.mk (bH (g:=eQ) (o:=.cells #[.int .u8 eu,.int .u8 dU,.int .u8 dN,.int .u8 dK,.int .i64 dE] 27 (0,0)) (by (with_reducible repeat (first|refine ah ?_ _|refine ak ?_|refine ai ?_ _));exact dw.out) hb)
                                  have dM:=ae.mk (bH (g:=dI) (o:=.cells #[.int .u8 dh,.int .u8 df,.int .u8 cZ,.int .u8 cO,.int .i64 cu] 27 (0,0)) (by (with_reducible repeat (first|refine ah ?_ _|refine ak ?_|refine ai ?_ _));exact bP.out) hb)
                                  have dW:=ae.mk (bf (by repeat (first|(with_reducible first|exact HB.out|apply au|apply af|apply aj|refine az ?_ jv.out|refine az ?_ ku.out)|exact HB.out)) hb)
                                  clear dw
                                  clear bP
                                  clear HB
                                  have dw:=dG
                                  have bP:=dM
                                  have HB:=dW
                                  clear dG dM dW
                                  (try clear hb)
                                  (try clear hb2)
                                  (try clear hk)
                                  (try clear hi)
                                  refine hK.out _ _ ⟨(ax bP.out 0).trans rfl,(ax bP.out 1).trans rfl,(ax bP.out 2).trans rfl,(ax bP.out 3).trans rfl,(ax bP.out 4).trans rfl⟩ (fun hHeld=>?_)
                                  clear hK K
                                  refine jB (a':=?_) ?_ ?_
                                  rotate_left
                                  · show Act.put _ (some 58) _=_
                                    simp only [Act.put,List.setIfInBounds_toArray,List.set_cons_zero,List.set_cons_succ,aN,aQ]
                                    rfl
                                  refine bJ (i:=6) (N:=some 52) (v:=?_) (a':=?_) #[true,true,true,true,true,true,true,false,false,false,false,false] rfl rfl (aW dR.out (by kernel_rfl)) (fun _ _ _ h=>h) (Or.inl ⟨by rfl,?_⟩) ?_ ?_
                                  rotate_left
                                  · intro w'
                                    go_simp
                                    with_reducible rfl
                                  rotate_left
                                  · simp only [Act.put,List.setIfInBounds_toArray,List.set_cons_zero,List.set_cons_succ,aN,aQ]
                                    rfl
                                  refine bJ (i:=7) (N:=some 59) (v:=?_) (a':=?_) #[true,true,true,true,true,true,true,true,false,false,false,false] rfl rfl (aW dR.out (by kernel_rfl)) (fun _ _ _ h=>h) (Or.inl ⟨by rfl,?_⟩) ?_ ?_
                                  rotate_left
                                  · intro w'
                                    go_simp
                                    with_reducible rfl
                                  rotate_left
                                  · simp only [Act.put,List.setIfInBounds_toArray,List.set_cons_zero,List.set_cons_succ,aN,aQ]
                                    rfl
                                  refine bJ (i:=8) (N:=some 60) (v:=?_) (a':=?_) #[true,true,true,true,true,true,true,true,true,false,false,false] rfl rfl (aW dR.out (by kernel_rfl)) (fun _ _ _ h=>h) (Or.inl ⟨by rfl,?_⟩) ?_ ?_
                                  rotate_left
                                  · intro w'
                                    go_simp
                                    with_reducible rfl
                                  rotate_left
                                  · simp only [Act.put,List.setIfInBounds_toArray,List.set_cons_zero,List.set_cons_succ,aN,aQ]
                                    rfl
                                  refine sW (i:=9) (N:=some 11) #[true,true,true,true,true,true,true,true,true,true,false,false] rfl rfl (kC dR.out (by kernel_rfl)) (by decide) (fun K hK=>?_)
                                  refine vJ ?hg (N:=11) ?hd (cs:=#[.int .u8 0,.int .u8 0,.int .u8 0,.int .u8 0,.int .i64 0]) (t:=27) ?hr ?_;(case hd=>rfl);(case hg=>rfl);(case hr=>first|(go_simp;done)|(go_simp;rfl))
                                  intro bT hg w24 hbox hb
                                  have dG:=ae.mk (bH (g:=eQ) (o:=.cells #[.int .u8 eu,.int .u8 dU,.int .u8 dN,.int .u8 dK,.int .i64 dE] 27 (0,0)) (by (with_reducible repeat (first|refine ah ?_ _|refine ak ?_|refine ai ?_ _));exact dw.out) hb)
                                  have dM:=ae.mk (bH (g:=dI) (o:=.cells #[.int .u8 dh,.int .u8 df,.int .u8 cZ,.int .u8 cO,.int .i64 cu] 27 (0,0)) (by (with_reducible repeat (first|refine ah ?_ _|refine ak ?_|refine ai ?_ _));exact bP.out) hb)
                                  have dW:=ae.mk (bf (by repeat (first|(with_reducible first|exact HB.out|apply au|apply af|apply aj|refine az ?_ jv.out|refine az ?_ ku.out)|exact HB.out)) hb)
                                  have fK:=ae.mk (hbox)
                                  have iO:=ae.mk ((by rw [hg];exact (aZ (by repeat (first|(with_reducible first|exact HB.out|apply au|apply af|apply aj|refine az ?_ jv.out|refine az ?_ ku.out)|exact HB.out))):w.heap.size≤bT))
                                  have jE:=ae.mk ((by rw [hg];exact (aZ (by repeat (first|(with_reducible first|exact HB.out|apply au|apply af|apply aj|refine az ?_ jv.out|refine az ?_ ku.out)|exact HB.out))):w.heap.size≤bT))
                                  have lg:=ae.mk ((by rw [hg];exact Nat.ne_of_lt (gG (g:=eQ) (o:=.cells #[.int .u8 eu,.int .u8 dU,.int .u8 dN,.int .u8 dK,.int .i64 dE] 27 (0,0)) (by (with_reducible repeat (first|refine ah ?_ _|refine ak ?_|refine ai ?_ _));exact dw.out)):eQ ≠ bT))
                                  have pz:=ae.mk ((by rw [hg];exact Nat.ne_of_gt (gG (g:=eQ) (o:=.cells #[.int .u8 eu,.int .u8 dU,.int .u8 dN,.int .u8 dK,.int .i64 dE] 27 (0,0)) (by (with_reducible repeat (first|refine ah ?_ _|refine ak ?_|refine ai ?_ _));exact dw.out)):bT ≠ eQ))
                                  have tN:=ae.mk ((by rw [hg];exact Nat.ne_of_lt (gG (g:=dI) (o:=.cells #[.int .u8 dh,.int .u8 df,.int .u8 cZ,.int .u8 cO,.int .i64 cu] 27 (0,0)) (by (with_reducible repeat (first|refine ah ?_ _|refine ak ?_|refine ai ?_ _));exact bP.out)):dI ≠ bT))
                                  have rP:=ae.mk ((by rw [hg];exact Nat.ne_of_gt (gG (g:=dI) (o:=.cells #[.int .u8 dh,.int .u8 df,.int .u8 cZ,.int .u8 cO,.int .i64 cu] 27 (0,0)) (by (with_reducible repeat (first|refine ah ?_ _|refine ak ?_|refine ai ?_ _));exact bP.out)):bT ≠ dI))
                                  clear dw
                                  clear bP
                                  clear HB
                                  have dw:=dG
                                  have bP:=dM
                                  have HB:=dW
                                  have iD:=fK
                                  have uK:=iO
                                  have nY:=jE
                                  have dP:=lg
                                  have gy:=pz
                                  have bn:=tN
                                  have gJ:=rP
                                  clear dG dM dW fK iO jE lg pz tN rP
                                  clear hb hbox hg
                                  refine hK.out _ _ ⟨(ax bP.out 0).trans rfl,(ax bP.out 1).trans rfl,(ax bP.out 2).trans rfl,(ax bP.out 3).trans rfl,(ax bP.out 4).trans rfl⟩ (fun hHeld=>?_)
                                  clear hK K
                                  refine jB (a':=?_) ?_ ?_
                                  rotate_left
                                  · show Act.put _ (some 11) _=_
                                    simp only [Act.put,List.setIfInBounds_toArray,List.set_cons_zero,List.set_cons_succ,aN,aQ]
                                    rfl
                                  exact jB (by simp only [lK,Act.put,List.setIfInBounds_toArray,List.set_cons_zero,List.set_cons_succ]) (xk (bT) _ ⟨hHeld,(by (with_reducible repeat (first|refine ah ?_ _|refine ak ?_|refine ai ?_ _));exact dw.out),(by (with_reducible repeat (first|refine ah ?_ _|refine ak ?_|refine ai ?_ _));exact bP.out),(by (with_reducible repeat (first|refine ah ?_ _|refine ak ?_|refine ai ?_ _));exact iD.out),uK.out,nY.out,dP.out,gy.out,bn.out,gJ.out,(by repeat (first|(with_reducible first|exact HB.out|apply au|apply af|apply aj|refine az ?_ jv.out|refine az ?_ ku.out|refine az ?_ nY.out)|exact HB.out))⟩)
                                · skip
                                  refine vJ ?hg (N:=11) ?hd (cs:=#[.int .u8 0,.int .u8 0,.int .u8 0,.int .u8 0,.int .i64 0]) (t:=27) ?hr ?_;(case hd=>rfl);(case hg=>rfl);(case hr=>first|(go_simp;done)|(go_simp;rfl))
                                  intro bT hg Jh hbox hb
                                  have dG:=ae.mk (bH (g:=eQ) (o:=.cells #[.int .u8 eu,.int .u8 dU,.int .u8 dN,.int .u8 dK,.int .i64 dE] 27 (0,0)) (by (with_reducible repeat (first|refine ah ?_ _|refine ak ?_|refine ai ?_ _));exact dw.out) hb)
                                  have dM:=ae.mk (bH (g:=dI) (o:=.cells #[.int .u8 dh,.int .u8 df,.int .u8 cZ,.int .u8 cO,.int .i64 cu] 27 (0,0)) (by (with_reducible repeat (first|refine ah ?_ _|refine ak ?_|refine ai ?_ _));exact bP.out) hb)
                                  have dW:=ae.mk (bf (by repeat (first|(with_reducible first|exact HB.out|apply au|apply af|apply aj|refine az ?_ jv.out|refine az ?_ ku.out)|exact HB.out)) hb)
                                  have fK:=ae.mk (hbox)
                                  have iO:=ae.mk ((by rw [hg];exact (aZ (by repeat (first|(with_reducible first|exact HB.out|apply au|apply af|apply aj|refine az ?_ jv.out|refine az ?_ ku.out)|exact HB.out))):w.heap.size≤bT))
                                  have jE:=ae.mk ((by rw [hg];exact (aZ (by repeat (first|(with_reducible first|exact HB.out|apply au|apply af|apply aj|refine az ?_ jv.out|refine az ?_ ku.out)|exact HB.out))):w.heap.size≤bT))
                                  have lg:=ae.mk ((by rw [hg];exact Nat.ne_of_lt (gG (g:=eQ) (o:=.cells #[.int .u8 eu,.int .u8 dU,.int .u8 dN,.int .u8 dK,.int .i64 dE] 27 (0,0)) (by (with_reducible repeat (first|refine ah ?_ _|refine ak ?_|refine ai ?_ _));exact dw.out)):eQ ≠ bT))
                                  have pz:=ae.mk ((by rw [hg];exact Nat.ne_of_gt (gG (g:=eQ) (o:=.cells #[.int .u8 eu,.int .u8 dU,.int .u8 dN,.int .u8 dK,.int .i64 dE] 27 (0,0)) (by (with_reducible repeat (first|refine ah ?_ _|refine ak ?_|refine ai ?_ _));exact dw.out)):bT ≠ eQ))
                                  have tN:=ae.mk ((by rw [hg];exact Nat.ne_of_lt (gG (g:=dI) (o:=.cells #[.int .u8 dh,.int .u8 df,.int .u8 cZ,.int .u8 cO,.int .i64 cu] 27 (0,0)) (by (with_reducible repeat (first|refine ah ?_ _|refine ak ?_|refine ai ?_ _));exact bP.out)):dI ≠ bT))
                                  have rP:=ae.mk ((by rw [hg];exact Nat.ne_of_gt (gG (g:=dI) (o:=.cells #[.int .u8 dh,.int .u8 df,.int .u8 cZ,.int .u8 cO,.int .i64 cu] 27 (0,0)) (by (with_reducible repeat (first|refine ah ?_ _|refine ak ?_|refine ai ?_ _));exact bP.out)):bT ≠ dI))
                                  clear dw
                                  clear bP
                                  clear HB
                                  have dw:=dG
                                  have bP:=dM
                                  have HB:=dW
                                  have iD:=fK
                                  have uK:=iO
                                  have nY:=jE
                                  have dP:=lg
                                  have gy:=pz
                                  have bn:=tN
                                  have gJ:=rP
                                  clear dG dM dW fK iO jE lg pz tN rP
                                  clear hb hbox hg
                                  refine hK.out _ _ ⟨(ax bP.out 0).trans rfl,(ax bP.out 1).trans rfl,(ax bP.out 2).trans rfl,(ax bP.out 3).trans rfl,(ax bP.out 4).trans rfl⟩ (fun hHeld=>?_)
                                  clear hK K
                                  refine jB (a':=?_) ?_ ?_
                                  rotate_left
                                  · show Act.put _ (some 11) _=_
                                    simp only [Act.put,List.setIfInBounds_toArray,List.set_cons_zero,List.set_cons_succ,aN,aQ]
                                    rfl
                                  refine sW (i:=5) (N:=some 58) #[true,true,true,true,true,true,false,false,false,true,false,false] rfl rfl (kC dR.out (by kernel_rfl)) (by decide) (fun K hK=>?_)
                                  refine sO Tryz.func48 (by kernel_rfl) rfl #[.agg #[.int .u8 dh,.int .u8 df,.int .u8 cZ,.int .u8 cO,.int .i64 cu],.int .u8 (bt t217 oK),.int .i64 t221] (by rfl) rfl rfl (by (try simp only [List.map_toArray,List.map_cons,List.map_nil]);first|done|rfl|(simp only [List.length_drop,List.length_take];rfl)) ?_
                                  with_reducible refine (aT.calls k3 dh df cZ cO cu (bt t217 oK) t221 t223 t224 t225 t226 t227 true _ A19.out).mono ?_
                                  rintro e w24 ⟨rfl,hb⟩
                                  refine ⟨_,rfl,?_⟩
                                  have dG:=ae.mk (bH (g:=eQ) (o:=.cells #[.int .u8 eu,.int .u8 dU,.int .u8 dN,.int .u8 dK,.int .i64 dE] 27 (0,0)) (by (with_reducible repeat (first|refine ah ?_ _|refine ak ?_|refine ai ?_ _));exact dw.out) hb)
                                  have dM:=ae.mk (bH (g:=dI) (o:=.cells #[.int .u8 dh,.int .u8 df,.int .u8 cZ,.int .u8 cO,.int .i64 cu] 27 (0,0)) (by (with_reducible repeat (first|refine ah ?_ _|refine ak ?_|refine ai ?_ _));exact bP.out) hb)
                                  have dW:=ae.mk (bH (g:=bT) (o:=.cells #[.int .u8 0,.int .u8 0,.int .u8 0,.int .u8 0,.int .i64 0] 27 (0,0)) (by (with_reducible repeat (first|refine ah ?_ _|refine ak ?_|refine ai ?_ _));exact iD.out) hb)
                                  have fK:=ae.mk (bf (by repeat (first|(with_reducible first|exact HB.out|apply au|apply af|apply aj|refine az ?_ jv.out|refine az ?_ ku.out|refine az ?_ nY.out)|exact HB.out)) hb)
                                  clear dw
                                  clear bP
                                  clear iD
                                  clear HB
                                  have dw:=dG
                                  have bP:=dM
                                  have iD:=dW
                                  have HB:=fK
                                  clear dG dM dW fK
                                  (try clear hb)
                                  (try clear hb2)
                                  (try clear hk)
                                  (try clear hi)
                                  refine hK.out _ _ ⟨(ax bP.out 0).trans rfl,(ax bP.out 1).trans rfl,(ax bP.out 2).trans rfl,(ax bP.out 3).trans rfl,(ax bP.out 4).trans rfl⟩ (fun hHeld=>?_)
                                  clear hK K
                                  refine jB (a':=?_) ?_ ?_
                                  rotate_left
                                  · show Act.put _ (some 58) _=_
                                    simp only [Act.put,List.setIfInBounds_toArray,List.set_cons_zero,List.set_cons_succ,aN,aQ]
                                    rfl
                                  refine bJ (i:=6) (N:=some 52) (v:=?_) (a':=?_) #[true,true,true,true,true,true,true,false,false,true,false,false] rfl rfl (aW dR.out (by kernel_rfl)) (fun _ _ _ h=>h) (Or.inl ⟨by rfl,?_⟩) ?_ ?_
                                  rotate_left
                                  · intro w'
                                    go_simp
                                    with_reducible rfl
                                  rotate_left
                                  · simp only [Act.put,List.setIfInBounds_toArray,List.set_cons_zero,List.set_cons_succ,aN,aQ]
                                    rfl
                                  refine bJ (i:=7) (N:=some 59) (v:=?_) (a':=?_) #[true,true,true,true,true,true,true,true,false,true,false,false] rfl rfl (aW dR.out (by kernel_rfl)) (fun _ _ _ h=>h) (Or.inl ⟨by rfl,?_⟩) ?_ ?_
                                  rotate_left
                                  · intro w'
                                    go_simp
                                    with_reducible rfl
                                  rotate_left
                                  · simp only [Act.put,List.setIfInBounds_toArray,List.set_cons_zero,List.set_cons_succ,aN,aQ]
                                    rfl
                                  refine bJ (i:=8) (N:=some 60) (v:=?_) (a':=?_) #[true,true,true,true,true,true,true,true,true,true,false,false] rfl rfl (aW dR.out (by kernel_rfl)) (fun _ _ _ h=>h) (Or.inl ⟨by rfl,?_⟩) ?_ ?_
                                  rotate_left
                                  · intro w'
                                    go_simp
                                    with_reducible rfl
                                  rotate_left
                                  · simp only [Act.put,List.setIfInBounds_toArray,List.set_cons_zero,List.set_cons_succ,aN,aQ]
                                    rfl
                                  exact jB (by simp only [lK,Act.put,List.setIfInBounds_toArray,List.set_cons_zero,List.set_cons_succ]) (xk (bT) _ ⟨hHeld,(by (with_reducible repeat (first|refine ah ?_ _|refine ak ?_|refine ai ?_ _));exact dw.out),(by (with_reducible repeat (first|refine ah ?_ _|refine ak ?_|refine ai ?_ _));exact bP.out),(by (with_reducible repeat (first|refine ah ?_ _|refine ak ?_|refine ai ?_ _));exact iD.out),uK.out,nY.out,dP.out,gy.out,bn.out,gJ.out,(by repeat (first|(with_reducible first|exact HB.out|apply au|apply af|apply aj|refine az ?_ jv.out|refine az ?_ ku.out|refine az ?_ nY.out)|exact HB.out))⟩)
                              rintro bT xq ⟨kJ,Rl,Rk,Rj,Ri,Rh,Yv,Yu,Yt,Yr,Yq⟩
                              have dG:ae (xq.heap[eQ]? = some (.cells #[.int .u8 eu,.int .u8 dU,.int .u8 dN,.int .u8 dK,.int .i64 dE] 27 (0,0))):=⟨Rl⟩
                              have dM:ae (xq.heap[dI]? = some (.cells #[.int .u8 dh,.int .u8 df,.int .u8 cZ,.int .u8 cO,.int .i64 cu] 27 (0,0))):=⟨Rk⟩
                              have dW:ae (xq.heap[bT]? = some (.cells #[.int .u8 0,.int .u8 0,.int .u8 0,.int .u8 0,.int .i64 0] 27 (0,0))):=⟨Rj⟩
                              have fK:ae (w.heap.size≤bT):=⟨Ri⟩
                              have iO:ae (w.heap.size≤bT):=⟨Rh⟩
                              have jE:ae (eQ ≠ bT):=⟨Yv⟩
                              have lg:ae (bT ≠ eQ):=⟨Yu⟩
                              have pz:ae (dI ≠ bT):=⟨Yt⟩
                              have tN:ae (bT ≠ dI):=⟨Yr⟩
                              have rP:ae (Below w.heap.size w xq):=⟨Yq⟩
                              clear dw
                              clear bP
                              clear HB
                              clear Rl Rk Rj Ri Rh Yv Yu Yt Yr Yq
                              have dw:=dG
                              have bP:=dM
                              have iD:=dW
                              have uK:=fK
                              have nY:=iO
                              have dP:=jE
                              have gy:=lg
                              have bn:=pz
                              have gJ:=tN
                              have HB:=rP
                              clear dG dM dW fK iO jE lg pz tN rP
                              have hHeld:xq.cell? ⟨dI,0,none⟩=some (.int .u8 dh)∧xq.cell? ⟨dI,1,none⟩=some (.int .u8 df)∧xq.cell? ⟨dI,2,none⟩=some (.int .u8 cZ)∧xq.cell? ⟨dI,3,none⟩=some (.int .u8 cO)∧xq.cell? ⟨dI,4,none⟩=some (.int .i64 cu):=kJ
                              refine jB (a':=?_) ?_ ?_
                              rotate_left
                              · simp only [lK,Act.put,List.setIfInBounds_toArray,List.set_cons_zero,List.set_cons_succ]
                                rfl
                              refine sW (i:=10) (N:=none) #[true,true,true,true,true,true,true,true,true,true,true,false] rfl rfl (kC dR.out (by kernel_rfl)) (by decide) (fun K hK=>?_)
                              have ani:xq.cell? ⟨bT,0,none⟩=some (.int .u8 0):=(ax iD.out 0).trans rfl
                              have alX:=ay iD.out 0
                              have aeq:=dP.out
                              have aep:=bn.out
                              have aeU:=gy.out
                              have aeT:=gJ.out
                              have anh:xq.cell? ⟨bT,1,none⟩=some (.int .u8 0):=(ax iD.out 1).trans rfl
                              have alW:=ay iD.out 1
                              have aeo:=dP.out
                              have aen:=bn.out
                              have aeS:=gy.out
                              have aeR:=gJ.out
                              have ang:xq.cell? ⟨bT,2,none⟩=some (.int .u8 0):=(ax iD.out 2).trans rfl
                              have alV:=ay iD.out 2
                              have aem:=dP.out
                              have ael:=bn.out
                              have aeQ:=gy.out
                              have aeP:=gJ.out
                              have anf:xq.cell? ⟨bT,3,none⟩=some (.int .u8 0):=(ax iD.out 3).trans rfl
                              have alU:=ay iD.out 3
                              have aek:=dP.out
                              have aej:=bn.out
                              have aeO:=gy.out
                              have aeN:=gJ.out
                              have ane:xq.cell? ⟨bT,4,none⟩=some (.int .i64 0):=(ax iD.out 4).trans rfl
                              have alT:=ay iD.out 4
                              have aei:=dP.out
                              have aeh:=bn.out
                              have aeM:=gy.out
                              have aeL:=gJ.out
                              refine Dn (w1:=?_) (by rfl) rfl ?_ ?_
                              rotate_left
                              · go_simp
                                rfl
                              refine hK.out _ _ ⟨((cell_far (p:=⟨bT,_,none⟩) bn.out _).trans (((cell_far (p:=⟨bT,_,none⟩) bn.out _).trans (((cell_far (p:=⟨bT,_,none⟩) bn.out _).trans (((cell_far (p:=⟨bT,_,none⟩) bn.out _).trans (((cell_far (p:=⟨bT,_,none⟩) bn.out _).trans (hHeld.1)))))))))),((cell_far (p:=⟨bT,_,none⟩) bn.out _).trans (((cell_far (p:=⟨bT,_,none⟩) bn.out _).trans (((cell_far (p:=⟨bT,_,none⟩) bn.out _).trans (((cell_far (p:=⟨bT,_,none⟩) bn.out _).trans (((cell_far (p:=⟨bT,_,none⟩) bn.out _).trans (hHeld.2.1)))))))))),((cell_far (p:=⟨bT,_,none⟩) bn.out _).trans (((cell_far (p:=⟨bT,_,none⟩) bn.out _).trans (((cell_far (p:=⟨bT,_,none⟩) bn.out _).trans (((cell_far (p:=⟨bT,_,none⟩) bn.out _).trans (((cell_far (p:=⟨bT,_,none⟩) bn.out _).trans (hHeld.2.2.1)))))))))),((cell_far (p:=⟨bT,_,none⟩) bn.out _).trans (((cell_far (p:=⟨bT,_,none⟩) bn.out _).trans (((cell_far (p:=⟨bT,_,none⟩) bn.out _).trans (((cell_far (p:=⟨bT,_,none⟩) bn.out _).trans (((cell_far (p:=⟨bT,_,none⟩) bn.out _).trans (hHeld.2.2.2.1)))))))))),((cell_far (p:=⟨bT,_,none⟩) bn.out _).trans (((cell_far (p:=⟨bT,_,none⟩) bn.out _).trans (((cell_far (p:=⟨bT,_,none⟩) bn.out _).trans (((cell_far (p:=⟨bT,_,none⟩) bn.out _).trans (((cell_far (p:=⟨bT,_,none⟩) bn.out _).trans (hHeld.2.2.2.2))))))))))⟩ (fun hHeld=>?_)
                              clear hK K
                              refine bJ (i:=11) (N:=some 12) (v:=?_) (a':=?_) #[true,true,true,true,true,true,true,true,true,true,true,true] rfl rfl (aW dR.out (by kernel_rfl)) (fun _ _ _ h=>h) (Or.inl ⟨by rfl,?_⟩) ?_ ?_
                              rotate_left
                              · intro w'
                                go_simp
                                with_reducible rfl
                              rotate_left
                              · simp only [Act.put,List.setIfInBounds_toArray,List.set_cons_zero,List.set_cons_succ,aN,aQ]
                                rfl
                              refine xm (qf dR.out (by kernel_rfl)) ?_
                              have abM:=gy.out
                              have abC:=dP.out
                              have abL:=gJ.out
                              have abB:=bn.out
                              have Wv:xq.cell? ⟨bT,0,none⟩=some (.int .u8 0):=(ax iD.out 0).trans rfl
                              have Wu:xq.cell? ⟨bT,1,none⟩=some (.int .u8 0):=(ax iD.out 1).trans rfl
                              have Ws:xq.cell? ⟨bT,2,none⟩=some (.int .u8 0):=(ax iD.out 2).trans rfl
                              have Wp:xq.cell? ⟨bT,3,none⟩=some (.int .u8 0):=(ax iD.out 3).trans rfl
                              have aiw:xq.cell? ⟨bT,4,none⟩=some (.int .i64 0):=(ax iD.out 4).trans rfl
                              have U5:=ay iD.out 0
                              have U4:=ay iD.out 1
                              have U3:=ay iD.out 2
                              have U2:=ay iD.out 3
                              have agn:=ay iD.out 4
                              have abK:=vS.out
                              have abA:=kR.out
                              have MH:xq.cell? ⟨dI,0,none⟩=some (.int .u8 dh):=(ax bP.out 0).trans rfl
                              have MG:xq.cell? ⟨dI,1,none⟩=some (.int .u8 df):=(ax bP.out 1).trans rfl
                              have MF:xq.cell? ⟨dI,2,none⟩=some (.int .u8 cZ):=(ax bP.out 2).trans rfl
                              have MC:xq.cell? ⟨dI,3,none⟩=some (.int .u8 cO):=(ax bP.out 3).trans rfl
                              have air:xq.cell? ⟨dI,4,none⟩=some (.int .i64 cu):=(ax bP.out 4).trans rfl
                              have LK:=ay bP.out 0
                              have LJ:=ay bP.out 1
                              have LH:=ay bP.out 2
                              have LG:=ay bP.out 3
                              have agi:=ay bP.out 4
                              try go_wp2
                              go_roundg k3
                              case measure=>have:=pJ.out;have:=HJ4.out;have:=J3.out;omega
                              case rel=>exact ⟨(qZ),(eu),(dU),(dN),(dK),(dE),(t223),(t224),(t225),(t226),(t227),(by first|rfl|(simp;done)|(simp only [← zX] <;> (first|rfl|simp))|(simp [*];done)),H',⟨by have:=pJ.out;have:=HJ4.out;have:=J3.out;omega⟩,⟨by (with_reducible repeat (first|refine ah ?_ _|refine ak ?_|refine ai ?_ _));refine di ?_ kR.out _;(with_reducible repeat (first|refine ah ?_ _|refine ak ?_|refine ai ?_ _));refine di ?_ kR.out _;(with_reducible repeat (first|refine ah ?_ _|refine ak ?_|refine ai ?_ _));refine di ?_ kR.out _;(with_reducible repeat (first|refine ah ?_ _|refine ak ?_|refine ai ?_ _));refine di ?_ kR.out _;(with_reducible repeat (first|refine ah ?_ _|refine ak ?_|refine ai ?_ _));refine di ?_ kR.out _;(with_reducible repeat (first|refine ah ?_ _|refine ak ?_|refine ai ?_ _));refine di ?_ dP.out _;(with_reducible repeat (first|refine ah ?_ _|refine ak ?_|refine ai ?_ _));refine di ?_ dP.out _;(with_reducible repeat (first|refine ah ?_ _|refine ak ?_|refine ai ?_ _));refine di ?_ dP.out _;(with_reducible repeat (first|refine ah ?_ _|refine ak ?_|refine ai ?_ _));refine di ?_ dP.out _;(with_reducible repeat (first|refine ah ?_ _|refine ak ?_|refine ai ?_ _));refine di ?_ dP.out _;(with_reducible repeat (first|refine ah ?_ _|refine ak ?_|refine ai ?_ _));exact dw.out⟩,⟨by (with_reducible repeat (first|refine ah ?_ _|refine ak ?_|refine ai ?_ _));refine bu (cs:=#[.int .u8 t223,.int .u8 t224,.int .u8 t225,.int .u8 t226,.int .i64 cu]) ?_ 4 _ rfl;(with_reducible repeat (first|refine ah ?_ _|refine ak ?_|refine ai ?_ _));refine bu (cs:=#[.int .u8 t223,.int .u8 t224,.int .u8 t225,.int .u8 cO,.int .i64 cu]) ?_ 3 _ rfl;(with_reducible repeat (first|refine ah ?_ _|refine ak ?_|refine ai ?_ _));refine bu (cs:=#[.int .u8 t223,.int .u8 t224,.int .u8 cZ,.int .u8 cO,.int .i64 cu]) ?_ 2 _ rfl;(with_reducible repeat (first|refine ah ?_ _|refine ak ?_|refine ai ?_ _));refine bu (cs:=#[.int .u8 t223,.int .u8 df,.int .u8 cZ,.int .u8 cO,.int .i64 cu]) ?_ 1 _ rfl;(with_reducible repeat (first|refine ah ?_ _|refine ak ?_|refine ai ?_ _));refine bu (cs:=#[.int .u8 dh,.int .u8 df,.int .u8 cZ,.int .u8 cO,.int .i64 cu]) ?_ 0 _ rfl;(with_reducible repeat (first|refine ah ?_ _|refine ak ?_|refine ai ?_ _));refine di ?_ bn.out _;(with_reducible repeat (first|refine ah ?_ _|refine ak ?_|refine ai ?_ _));refine di ?_ bn.out _;(with_reducible repeat (first|refine ah ?_ _|refine ak ?_|refine ai ?_ _));refine di ?_ bn.out _;(with_reducible repeat (first|refine ah ?_ _|refine ak ?_|refine ai ?_ _));refine di ?_ bn.out _;(with_reducible repeat (first|refine ah ?_ _|refine ak ?_|refine ai ?_ _));refine di ?_ bn.out _;(with_reducible repeat (first|refine ah ?_ _|refine ak ?_|refine ai ?_ _));exact bP.out⟩,⟨by repeat (first|(with_reducible first|exact HB.out|apply au|apply af|apply aj|refine az ?_ jv.out|refine az ?_ ku.out|refine az ?_ nY.out)|exact HB.out)⟩⟩
                            · replace c21:=Bool.eq_false_iff.mpr c21
                              subst c21
                              have H1:(some (0,0,0,0,0,false))=some (r1,r2,r3,r4,r5,r6):=by rw [if_neg (show ¬ (false=true) by decide)] at H;exact H
                              clear H
                              have H:=H1
                              clear H1
                              simp only [Option.some.injEq,Prod.mk.injEq] at H
                              obtain ⟨rfl,rfl,rfl,rfl,rfl,rfl⟩:=H
                              have DC:0≤((qZ):Int):=of_decide_eq_true (by first|(with_reducible assumption)|assumption)
                              have Dw:(qZ) < (l0.length:Int):=of_decide_eq_true (by first|(with_reducible assumption)|assumption)
                              obtain ⟨YH,e220,qA⟩:=Kd.fO HR0.out (qZ) DC Dw
                              cases e220
                              replace qA:=(HB.out.cell (World.block_lt_of_cell? w _ qA)).trans qA
                              replace DC:=eq_true DC
                              replace Dw:=eq_true Dw
                              try go_wp2_with (first|((with_reducible refine bQ (f:=47) rfl ?_);refine fZ (some 49) rfl rfl Tryz.func47 (by kernel_rfl) rfl #[.string (eF ByteArray.empty l0 (qZ))] rfl (by (try simp only [List.map_toArray,List.map_cons,List.map_nil]);first|done|(simp only [zX];rfl)|rfl|(simp only [List.length_drop,List.length_take];rfl)) ?_;(with_reducible refine (aC.calls k3 (eF ByteArray.empty l0 (qZ)) t221 t222 _ Tc.out).mono ?_);rintro e w' ⟨rfl,⟨nd,rfl⟩⟩;refine ⟨_,rfl,?_⟩;(try (rw [mY wr];generalize qg:World.drewN wr _=wr;have dG:ae (wr.heap[eQ]? = some (.cells #[.int .u8 eu,.int .u8 dU,.int .u8 dN,.int .u8 dK,.int .i64 dE] 27 (0,0))):=⟨by rw [← qg];exact (by (with_reducible repeat (first|refine ah ?_ _|refine ak ?_|refine ai ?_ _));exact dw.out)⟩;have dM:ae (wr.heap[dI]? = some (.cells #[.int .u8 dh,.int .u8 df,.int .u8 cZ,.int .u8 cO,.int .i64 cu] 27 (0,0))):=⟨by rw [← qg];exact (by (with_reducible repeat (first|refine ah ?_ _|refine ak ?_|refine ai ?_ _));exact bP.out)⟩;have dW:ae (Below w.heap.size w wr):=⟨by rw [← qg];exact (by repeat (first|(with_reducible first|exact HB.out|apply au|apply af|apply aj|refine az ?_ jv.out|refine az ?_ ku.out)|exact HB.out))⟩;clear dw bP HB qg;have dw:=dG;have bP:=dM;have HB:=dW;clear dG dM dW))))
                              have dG:=ae.mk (ak dw.out)
                              have dM:=ae.mk (ak bP.out)
                              have dW:=ae.mk (aj HB.out)
                              clear dw
                              clear bP
                              clear HB
                              have dw:=dG
                              have bP:=dM
                              have HB:=dW
                              clear dG dM dW
                              have Ia:0≤(oK:Int):=of_decide_eq_true (by first|(with_reducible assumption)|assumption)
                              have H7:oK < (t217.size:Int):=of_decide_eq_true (by first|(with_reducible assumption)|assumption)
                              have Qp:=kS t217 oK
                              replace Ia:=eq_true Ia
                              replace H7:=eq_true H7
                              refine sD (n:=12) (S:=fun w'=>w'.cell? ⟨dI,0,none⟩=some (.int .u8 dh)∧w'.cell? ⟨dI,1,none⟩=some (.int .u8 df)∧w'.cell? ⟨dI,2,none⟩=some (.int .u8 cZ)∧w'.cell? ⟨dI,3,none⟩=some (.int .u8 cO)∧w'.cell? ⟨dI,4,none⟩=some (.int .i64 cu)) (ds:=[]) #[false,false,false,false,false,false,false,false,false,false,false,false] (by kernel_rfl) rfl rfl ⟨(ax bP.out 0).trans rfl,(ax bP.out 1).trans rfl,(ax bP.out 2).trans rfl,(ax bP.out 3).trans rfl,(ax bP.out 4).trans rfl⟩ (fun hHeld=>?_);refine l9 aG.PI aG.JW (fun dR oJ=>?_)
                              generalize wr.drew=w36 at dw bP HB hHeld ⊢
                              refine bJ (i:=1) (N:=some 54) (v:=?_) (a':=?_) #[false,true,false,false,false,false,false,false,false,false,false,false] rfl rfl (aW dR.out (by kernel_rfl)) (fun _ _ _ h=>h) (Or.inl ⟨by rfl,?_⟩) ?_ ?_
                              rotate_left
                              · intro w'
                                go_simp
                                with_reducible rfl
                              rotate_left
                              · simp only [Act.put,List.setIfInBounds_toArray,List.set_cons_zero,List.set_cons_succ,aN,aQ]
                                rfl
                              refine bJ (i:=2) (N:=some 55) (v:=?_) (a':=?_) #[false,true,true,false,false,false,false,false,false,false,false,false] rfl rfl (aW dR.out (by kernel_rfl)) (fun _ _ _ h=>h) (Or.inl ⟨by rfl,?_⟩) ?_ ?_
                              rotate_left
                              · intro w'
                                go_simp
                                with_reducible rfl
                              rotate_left
                              · simp only [Act.put,List.setIfInBounds_toArray,List.set_cons_zero,List.set_cons_succ,aN,aQ]
                                rfl
                              refine bJ (i:=4) (N:=some 57) (v:=?_) (a':=?_) #[false,true,true,false,true,false,false,false,false,false,false,false] rfl rfl (aW dR.out (by kernel_rfl)) (fun _ _ _ h=>h) (Or.inl ⟨by rfl,?_⟩) ?_ ?_
                              rotate_left
                              · intro w'
                                go_simp
                                with_reducible rfl
                              rotate_left
                              · simp only [Act.put,List.setIfInBounds_toArray,List.set_cons_zero,List.set_cons_succ,aN,aQ]
                                rfl
                              refine iK (i:=0) (N:=some 53) (v:=?_) (a':=?_) #[true,true,true,false,true,false,false,false,false,false,false,false] rfl rfl (dH dR.out oJ.out (by kernel_rfl)) (fun _ _ _ h=>h) (Or.inl ⟨by rfl,?_⟩) hHeld ?_ ?_
                              rotate_left
                              · rintro w' ⟨s0,s1,s2,s3,s4⟩
                                go_simp
                                with_reducible rfl
                              rotate_left
                              · simp only [Act.put,List.setIfInBounds_toArray,List.set_cons_zero,List.set_cons_succ,aN,aQ]
                                rfl
                              refine iK (i:=3) (N:=some 56) (v:=?_) (a':=?_) #[true,true,true,true,true,false,false,false,false,false,false,false] rfl rfl (dH dR.out oJ.out (by kernel_rfl)) (fun _ _ _ h=>h) (Or.inl ⟨by rfl,?_⟩) hHeld ?_ ?_
                              rotate_left
                              · rintro w' ⟨s0,s1,s2,s3,s4⟩
                                go_simp
                                with_reducible rfl
                              rotate_left
                              · simp only [Act.put,List.setIfInBounds_toArray,List.set_cons_zero,List.set_cons_succ,aN,aQ]
                                rfl
                              refine Lh (σ:=Nat) 2 #[true,true,true,true,true,true,true,true,true,true,false,false] (fun s_=>[(58,.tuple #[.agg #[.int .u8 t223,.int .u8 t224,.int .u8 t225,.int .u8 t226,.int .i64 t227],.bool false]),(11,.pointer (some ⟨s_,0,none⟩)),(52,.tuple #[.agg #[.int .u8 t223,.int .u8 t224,.int .u8 t225,.int .u8 t226,.int .i64 t227],.bool false]),(59,.agg #[.int .u8 t223,.int .u8 t224,.int .u8 t225,.int .u8 t226,.int .i64 t227]),(60,.bool false)]) (fun s_ w'=>(w'.cell? ⟨dI,0,none⟩=some (.int .u8 dh)∧w'.cell? ⟨dI,1,none⟩=some (.int .u8 df)∧w'.cell? ⟨dI,2,none⟩=some (.int .u8 cZ)∧w'.cell? ⟨dI,3,none⟩=some (.int .u8 cO)∧w'.cell? ⟨dI,4,none⟩=some (.int .i64 cu))∧(w'.heap[eQ]? = some (.cells #[.int .u8 eu,.int .u8 dU,.int .u8 dN,.int .u8 dK,.int .i64 dE] 27 (0,0)))∧(w'.heap[dI]? = some (.cells #[.int .u8 dh,.int .u8 df,.int .u8 cZ,.int .u8 cO,.int .i64 cu] 27 (0,0)))∧(w'.heap[s_]? = some (.cells #[.int .u8 0,.int .u8 0,.int .u8 0,.int .u8 0,.int .i64 0] 27 (0,0)))∧(w.heap.size≤s_)∧(w.heap.size≤s_)∧(eQ ≠ s_)∧(s_ ≠ eQ)∧(dI ≠ s_)∧(s_ ≠ dI)∧(Below w.heap.size w w')) ?_ ?_
                              rotate_left
                              · intro xk
                                refine Py (i:=5) (j:=9) (Ni:=some 58) (Nj:=some 11) #[true,true,true,true,true,true,false,false,false,false,false,false] #[true,true,true,true,true,false,false,false,false,true,false,false] rfl rfl rfl rfl (Dh dR.out (by kernel_rfl)) (by decide) (by decide) (fun K hK=>?_) (fun K hK=>?_)
                                · skip
                                  refine sO Tryz.func48 (by kernel_rfl) rfl #[.agg #[.int .u8 dh,.int .u8 df,.int .u8 cZ,.int .u8 cO,.int .i64 cu],.int .u8 (bt t217 oK),.int .i64 t221] (by rfl) rfl rfl (by (try simp only [List.map_toArray,List.map_cons,List.map_nil]);first|done|rfl|(simp only [List.length_drop,List.length_take];rfl)) ?_
                                  with_reducible refine (aT.calls k3 dh df cZ cO cu (bt t217 oK) t221 t223 t224 t225 t226 t227 false _ A19.out).mono ?_
                                  rintro e w37 ⟨rfl,hb⟩
                                  refine ⟨_,rfl,?_⟩
                                  have dG:=ae.mk (bH (g:=eQ) (o:=.cells #[.int .u8 eu,.int .u8 dU,.int .u8 dN,.int .u8 dK,.int .i64 dE] 27 (0,0)) (by (with_reducible repeat (first|refine ah ?_ _|refine ak ?_|refine ai ?_ _));exact dw.out) hb)
                                  have dM:=ae.mk (bH (g:=dI) (o:=.cells #[.int .u8 dh,.int .u8 df,.int .u8 cZ,.int .u8 cO,.int .i64 cu] 27 (0,0)) (by (with_reducible repeat (first|refine ah ?_ _|refine ak ?_|refine ai ?_ _));exact bP.out) hb)
                                  have dW:=ae.mk (bf (by repeat (first|(with_reducible first|exact HB.out|apply au|apply af|apply aj|refine az ?_ jv.out|refine az ?_ ku.out)|exact HB.out)) hb)
                                  clear dw
                                  clear bP
                                  clear HB
                                  have dw:=dG
                                  have bP:=dM
                                  have HB:=dW
                                  clear dG dM dW
                                  (try clear hb)
                                  (try clear hb2)
                                  (try clear hk)
                                  (try clear hi)
                                  refine hK.out _ _ ⟨(ax bP.out 0).trans rfl,(ax bP.out 1).trans rfl,(ax bP.out 2).trans rfl,(ax bP.out 3).trans rfl,(ax bP.out 4).trans rfl⟩ (fun hHeld=>?_)
                                  clear hK K
                                  refine jB (a':=?_) ?_ ?_
                                  rotate_left
                                  · show Act.put _ (some 58) _=_
                                    simp only [Act.put,List.setIfInBounds_toArray,List.set_cons_zero,List.set_cons_succ,aN,aQ]
                                    rfl
                                  refine bJ (i:=6) (N:=some 52) (v:=?_) (a':=?_) #[true,true,true,true,true,true,true,false,false,false,false,false] rfl rfl (aW dR.out (by kernel_rfl)) (fun _ _ _ h=>h) (Or.inl ⟨by rfl,?_⟩) ?_ ?_
                                  rotate_left
                                  · intro w'
                                    go_simp
                                    with_reducible rfl
                                  rotate_left
                                  · simp only [Act.put,List.setIfInBounds_toArray,List.set_cons_zero,List.set_cons_succ,aN,aQ]
                                    rfl
                                  refine bJ (i:=7) (N:=some 59) (v:=?_) (a':=?_) #[true,true,true,true,true,true,true,true,false,false,false,false] rfl rfl (aW dR.out (by kernel_rfl)) (fun _ _ _ h=>h) (Or.inl ⟨by rfl,?_⟩) ?_ ?_
                                  rotate_left
                                  · intro w'
                                    go_simp
                                    with_reducible rfl
                                  rotate_left
                                  · simp only [Act.put,List.setIfInBounds_toArray,List.set_cons_zero,List.set_cons_succ,aN,aQ]
                                    rfl
                                  refine bJ (i:=8) (N:=some 60) (v:=?_) (a':=?_) #[true,true,true,true,true,true,true,true,true,false,false,false] rfl rfl (aW dR.out (by kernel_rfl)) (fun _ _ _ h=>h) (Or.inl ⟨by rfl,?_⟩) ?_ ?_
                                  rotate_left
                                  · intro w'
                                    go_simp
                                    with_reducible rfl
                                  rotate_left
                                  · simp only [Act.put,List.setIfInBounds_toArray,List.set_cons_zero,List.set_cons_succ,aN,aQ]
                                    rfl
                                  refine sW (i:=9) (N:=some 11) #[true,true,true,true,true,true,true,true,true,true,false,false] rfl rfl (kC dR.out (by kernel_rfl)) (by decide) (fun K hK=>?_)
                                  refine vJ ?hg (N:=11) ?hd (cs:=#[.int .u8 0,.int .u8 0,.int .u8 0,.int .u8 0,.int .i64 0]) (t:=27) ?hr ?_;(case hd=>rfl);(case hg=>rfl);(case hr=>first|(go_simp;done)|(go_simp;rfl))
                                  intro bT hg Tf hbox hb
                                  have dG:=ae.mk (bH (g:=eQ) (o:=.cells #[.int .u8 eu,.int .u8 dU,.int .u8 dN,.int .u8 dK,.int .i64 dE] 27 (0,0)) (by (with_reducible repeat (first|refine ah ?_ _|refine ak ?_|refine ai ?_ _));exact dw.out) hb)
                                  have dM:=ae.mk (bH (g:=dI) (o:=.cells #[.int .u8 dh,.int .u8 df,.int .u8 cZ,.int .u8 cO,.int .i64 cu] 27 (0,0)) (by (with_reducible repeat (first|refine ah ?_ _|refine ak ?_|refine ai ?_ _));exact bP.out) hb)
                                  have dW:=ae.mk (bf (by repeat (first|(with_reducible first|exact HB.out|apply au|apply af|apply aj|refine az ?_ jv.out|refine az ?_ ku.out)|exact HB.out)) hb)
                                  have fK:=ae.mk (hbox)
                                  have iO:=ae.mk ((by rw [hg];exact (aZ (by repeat (first|(with_reducible first|exact HB.out|apply au|apply af|apply aj|refine az ?_ jv.out|refine az ?_ ku.out)|exact HB.out))):w.heap.size≤bT))
                                  have jE:=ae.mk ((by rw [hg];exact (aZ (by repeat (first|(with_reducible first|exact HB.out|apply au|apply af|apply aj|refine az ?_ jv.out|refine az ?_ ku.out)|exact HB.out))):w.heap.size≤bT))
                                  have lg:=ae.mk ((by rw [hg];exact Nat.ne_of_lt (gG (g:=eQ) (o:=.cells #[.int .u8 eu,.int .u8 dU,.int .u8 dN,.int .u8 dK,.int .i64 dE] 27 (0,0)) (by (with_reducible repeat (first|refine ah ?_ _|refine ak ?_|refine ai ?_ _));exact dw.out)):eQ ≠ bT))
                                  have pz:=ae.mk ((by rw [hg];exact Nat.ne_of_gt (gG (g:=eQ) (o:=.cells #[.int .u8 eu,.int .u8 dU,.int .u8 dN,.int .u8 dK,.int .i64 dE] 27 (0,0)) (by (with_reducible repeat (first|refine ah ?_ _|refine ak ?_|refine ai ?_ _));exact dw.out)):bT ≠ eQ))
                                  have tN:=ae.mk ((by rw [hg];exact Nat.ne_of_lt (gG (g:=dI) (o:=.cells #[.int .u8 dh,.int .u8 df,.int .u8 cZ,.int .u8 cO,.int .i64 cu] 27 (0,0)) (by (with_reducible repeat (first|refine ah ?_ _|refine ak ?_|refine ai ?_ _));exact bP.out)):dI ≠ bT))
                                  have rP:=ae.mk ((by rw [hg];exact Nat.ne_of_gt (gG (g:=dI) (o:=.cells #[.int .u8 dh,.int .u8 df,.int .u8 cZ,.int .u8 cO,.int .i64 cu] 27 (0,0)) (by (with_reducible repeat (first|refine ah ?_ _|refine ak ?_|refine ai ?_ _));exact bP.out)):bT ≠ dI))
                                  clear dw
                                  clear bP
                                  clear HB
                                  have dw:=dG
                                  have bP:=dM
                                  have HB:=dW
                                  have iD:=fK
                                  have uK:=iO
                                  have nY:=jE
                                  have dP:=lg
                                  have gy:=pz
                                  have bn:=tN
                                  have gJ:=rP
                                  clear dG dM dW fK iO jE lg pz tN rP
                                  clear hb hbox hg
                                  refine hK.out _ _ ⟨(ax bP.out 0).trans rfl,(ax bP.out 1).trans rfl,(ax bP.out 2).trans rfl,(ax bP.out 3).trans rfl,(ax bP.out 4).trans rfl⟩ (fun hHeld=>?_)
                                  clear hK K
                                  refine jB (a':=?_) ?_ ?_
                                  rotate_left
                                  · show Act.put _ (some 11) _=_
                                    simp only [Act.put,List.setIfInBounds_toArray,List.set_cons_zero,List.set_cons_succ,aN,aQ]
                                    rfl
                                  exact jB (by simp only [lK,Act.put,List.setIfInBounds_toArray,List.set_cons_zero,List.set_cons_succ]) (xk (bT) _ ⟨hHeld,(by (with_reducible repeat (first|refine ah ?_ _|refine ak ?_|refine ai ?_ _));exact dw.out),(by (with_reducible repeat (first|refine ah ?_ _|refine ak ?_|refine ai ?_ _));exact bP.out),(by (with_reducible repeat (first|refine ah ?_ _|refine ak ?_|refine ai ?_ _));exact iD.out),uK.out,nY.out,dP.out,gy.out,bn.out,gJ.out,(by repeat (first|(with_reducible first|exact HB.out|apply au|apply af|apply aj|refine az ?_ jv.out|refine az ?_ ku.out|refine az ?_ nY.out)|exact HB.out))⟩)
                                · skip
                                  refine vJ ?hg (N:=11) ?hd (cs:=#[.int .u8 0,.int .u8 0,.int .u8 0,.int .u8 0,.int .i64 0]) (t:=27) ?hr ?_;(case hd=>rfl);(case hg=>rfl);(case hr=>first|(go_simp;done)|(go_simp;rfl))
                                  intro bT hg w37 hbox hb
                                  have dG:=ae.mk (bH (g:=eQ) (o:=.cells #[.int .u8 eu,.int .u8 dU,.int .u8 dN,.int .u8 dK,.int .i64 dE] 27 (0,0)) (by (with_reducible repeat (first|refine ah ?_ _|refine ak ?_|refine ai ?_ _));exact dw.out) hb)
                                  have dM:=ae.mk (bH (g:=dI) (o:=.cells #[.int .u8 dh,.int .u8 df,.int .u8 cZ,.int .u8 cO,.int .i64 cu] 27 (0,0)) (by (with_reducible repeat (first|refine ah ?_ _|refine ak ?_|refine ai ?_ _));exact bP.out) hb)
                                  have dW:=ae.mk (bf (by repeat (first|(with_reducible first|exact HB.out|apply au|apply af|apply aj|refine az ?_ jv.out|refine az ?_ ku.out)|exact HB.out)) hb)
                                  have fK:=ae.mk (hbox)
                                  have iO:=ae.mk ((by rw [hg];exact (aZ (by repeat (first|(with_reducible first|exact HB.out|apply au|apply af|apply aj|refine az ?_ jv.out|refine az ?_ ku.out)|exact HB.out))):w.heap.size≤bT))
                                  have jE:=ae.mk ((by rw [hg];exact (aZ (by repeat (first|(with_reducible first|exact HB.out|apply au|apply af|apply aj|refine az ?_ jv.out|refine az ?_ ku.out)|exact HB.out))):w.heap.size≤bT))
                                  have lg:=ae.mk ((by rw [hg];exact Nat.ne_of_lt (gG (g:=eQ) (o:=.cells #[.int .u8 eu,.int .u8 dU,.int .u8 dN,.int .u8 dK,.int .i64 dE] 27 (0,0)) (by (with_reducible repeat (first|refine ah ?_ _|refine ak ?_|refine ai ?_ _));exact dw.out)):eQ ≠ bT))
                                  have pz:=ae.mk ((by rw [hg];exact Nat.ne_of_gt (gG (g:=eQ) (o:=.cells #[.int .u8 eu,.int .u8 dU,.int .u8 dN,.int .u8 dK,.int .i64 dE] 27 (0,0)) (by (with_reducible repeat (first|refine ah ?_ _|refine ak ?_|refine ai ?_ _));exact dw.out)):bT ≠ eQ))
                                  have tN:=ae.mk ((by rw [hg];exact Nat.ne_of_lt (gG (g:=dI) (o:=.cells #[.int .u8 dh,.int .u8 df,.int .u8 cZ,.int .u8 cO,.int .i64 cu] 27 (0,0)) (by (with_reducible repeat (first|refine ah ?_ _|refine ak ?_|refine ai ?_ _));exact bP.out)):dI ≠ bT))
                                  have rP:=ae.mk ((by rw [hg];exact Nat.ne_of_gt (gG (g:=dI) (o:=.cells #[.int .u8 dh,.int .u8 df,.int .u8 cZ,.int .u8 cO,.int .i64 cu] 27 (0,0)) (by (with_reducible repeat (first|refine ah ?_ _|refine ak ?_|refine ai ?_ _));exact bP.out)):bT ≠ dI))
                                  clear dw
                                  clear bP
                                  clear HB
                                  have dw:=dG
                                  have bP:=dM
                                  have HB:=dW
                                  have iD:=fK
                                  have uK:=iO
                                  have nY:=jE
                                  have dP:=lg
                                  have gy:=pz
                                  have bn:=tN
                                  have gJ:=rP
                                  clear dG dM dW fK iO jE lg pz tN rP
                                  clear hb hbox hg
                                  refine hK.out _ _ ⟨(ax bP.out 0).trans rfl,(ax bP.out 1).trans rfl,(ax bP.out 2).trans rfl,(ax bP.out 3).trans rfl,(ax bP.out 4).trans rfl⟩ (fun hHeld=>?_)
                                  clear hK K
                                  refine jB (a':=?_) ?_ ?_
                                  rotate_left
                                  · show Act.put _ (some 11) _=_
                                    simp only [Act.put,List.setIfInBounds_toArray,List.set_cons_zero,List.set_cons_succ,aN,aQ]
                                    rfl
                                  refine sW (i:=5) (N:=some 58) #[true,true,true,true,true,true,false,false,false,true,false,false] rfl rfl (kC dR.out (by kernel_rfl)) (by decide) (fun K hK=>?_)
                                  refine sO Tryz.func48 (by kernel_rfl) rfl #[.agg #[.int .u8 dh,.int .u8 df,.int .u8 cZ,.int .u8 cO,.int .i64 cu],.int .u8 (bt t217 oK),.int .i64 t221] (by rfl) rfl rfl (by (try simp only [List.map_toArray,List.map_cons,List.map_nil]);first|done|rfl|(simp only [List.length_drop,List.length_take];rfl)) ?_
                                  with_reducible refine (aT.calls k3 dh df cZ cO cu (bt t217 oK) t221 t223 t224 t225 t226 t227 false _ A19.out).mono ?_
                                  rintro e Tf ⟨rfl,hb⟩
                                  refine ⟨_,rfl,?_⟩
                                  have dG:=ae.mk (bH (g:=eQ) (o:=.cells #[.int .u8 eu,.int .u8 dU,.int .u8 dN,.int .u8 dK,.int .i64 dE] 27 (0,0)) (by (with_reducible repeat (first|refine ah ?_ _|refine ak ?_|refine ai ?_ _));exact dw.out) hb)
                                  have dM:=ae.mk (bH (g:=dI) (o:=.cells #[.int .u8 dh,.int .u8 df,.int .u8 cZ,.int .u8 cO,.int .i64 cu] 27 (0,0)) (by (with_reducible repeat (first|refine ah ?_ _|refine ak ?_|refine ai ?_ _));exact bP.out) hb)
                                  have dW:=ae.mk (bH (g:=bT) (o:=.cells #[.int .u8 0,.int .u8 0,.int .u8 0,.int .u8 0,.int .i64 0] 27 (0,0)) (by (with_reducible repeat (first|refine ah ?_ _|refine ak ?_|refine ai ?_ _));exact iD.out) hb)
                                  have fK:=ae.mk (bf (by repeat (first|(with_reducible first|exact HB.out|apply au|apply af|apply aj|refine az ?_ jv.out|refine az ?_ ku.out|refine az ?_ nY.out)|exact HB.out)) hb)
                                  clear dw
                                  clear bP
                                  clear iD
                                  clear HB
                                  have dw:=dG
                                  have bP:=dM
                                  have iD:=dW
                                  have HB:=fK
                                  clear dG dM dW fK
                                  (try clear hb)
                                  (try clear hb2)
                                  (try clear hk)
                                  (try clear hi)
                                  refine hK.out _ _ ⟨(ax bP.out 0).trans rfl,(ax bP.out 1).trans rfl,(ax bP.out 2).trans rfl,(ax bP.out 3).trans rfl,(ax bP.out 4).trans rfl⟩ (fun hHeld=>?_)
                                  clear hK K
                                  refine jB (a':=?_) ?_ ?_
                                  rotate_left
                                  · show Act.put _ (some 58) _=_
                                    simp only [Act.put,List.setIfInBounds_toArray,List.set_cons_zero,List.set_cons_succ,aN,aQ]
                                    rfl
                                  refine bJ (i:=6) (N:=some 52) (v:=?_) (a':=?_) #[true,true,true,true,true,true,true,false,false,true,false,false] rfl rfl (aW dR.out (by kernel_rfl)) (fun _ _ _ h=>h) (Or.inl ⟨by rfl,?_⟩) ?_ ?_
                                  rotate_left
                                  · intro w'
                                    go_simp
                                    with_reducible rfl
                                  rotate_left
                                  · simp only [Act.put,List.setIfInBounds_toArray,List.set_cons_zero,List.set_cons_succ,aN,aQ]
                                    rfl
                                  refine bJ (i:=7) (N:=some 59) (v:=?_) (a':=?_) #[true,true,true,true,true,true,true,true,false,true,false,false] rfl rfl (aW dR.out (by kernel_rfl)) (fun _ _ _ h=>h) (Or.inl ⟨by rfl,?_⟩) ?_ ?_
                                  rotate_left
                                  · intro w'
                                    go_simp
                                    with_reducible rfl
                                  rotate_left
                                  · simp only [Act.put,List.setIfInBounds_toArray,List.set_cons_zero,List.set_cons_succ,aN,aQ]
                                    rfl
                                  refine bJ (i:=8) (N:=some 60) (v:=?_) (a':=?_) #[true,true,true,true,true,true,true,true,true,true,false,false] rfl rfl (aW dR.out (by kernel_rfl)) (fun _ _ _ h=>h) (Or.inl ⟨by rfl,?_⟩) ?_ ?_
                                  rotate_left
                                  · intro w'
                                    go_simp
                                    with_reducible rfl
                                  rotate_left
                                  · simp only [Act.put,List.setIfInBounds_toArray,List.set_cons_zero,List.set_cons_succ,aN,aQ]
                                    rfl
                                  exact jB (by simp only [lK,Act.put,List.setIfInBounds_toArray,List.set_cons_zero,List.set_cons_succ]) (xk (bT) _ ⟨hHeld,(by (with_reducible repeat (first|refine ah ?_ _|refine ak ?_|refine ai ?_ _));exact dw.out),(by (with_reducible repeat (first|refine ah ?_ _|refine ak ?_|refine ai ?_ _));exact bP.out),(by (with_reducible repeat (first|refine ah ?_ _|refine ak ?_|refine ai ?_ _));exact iD.out),uK.out,nY.out,dP.out,gy.out,bn.out,gJ.out,(by repeat (first|(with_reducible first|exact HB.out|apply au|apply af|apply aj|refine az ?_ jv.out|refine az ?_ ku.out|refine az ?_ nY.out)|exact HB.out))⟩)
                              rintro bT yl ⟨kJ,Rl,Rk,Rj,Ri,Rh,Yv,Yu,Yt,Yr,Yq⟩
                              have dG:ae (yl.heap[eQ]? = some (.cells #[.int .u8 eu,.int .u8 dU,.int .u8 dN,.int .u8 dK,.int .i64 dE] 27 (0,0))):=⟨Rl⟩
                              have dM:ae (yl.heap[dI]? = some (.cells #[.int .u8 dh,.int .u8 df,.int .u8 cZ,.int .u8 cO,.int .i64 cu] 27 (0,0))):=⟨Rk⟩
                              have dW:ae (yl.heap[bT]? = some (.cells #[.int .u8 0,.int .u8 0,.int .u8 0,.int .u8 0,.int .i64 0] 27 (0,0))):=⟨Rj⟩
                              have fK:ae (w.heap.size≤bT):=⟨Ri⟩
                              have iO:ae (w.heap.size≤bT):=⟨Rh⟩
                              have jE:ae (eQ ≠ bT):=⟨Yv⟩
                              have lg:ae (bT ≠ eQ):=⟨Yu⟩
                              have pz:ae (dI ≠ bT):=⟨Yt⟩
                              have tN:ae (bT ≠ dI):=⟨Yr⟩
                              have rP:ae (Below w.heap.size w yl):=⟨Yq⟩
                              clear dw
                              clear bP
                              clear HB
                              clear Rl Rk Rj Ri Rh Yv Yu Yt Yr Yq
                              have dw:=dG
                              have bP:=dM
                              have iD:=dW
                              have uK:=fK
                              have nY:=iO
                              have dP:=jE
                              have gy:=lg
                              have bn:=pz
                              have gJ:=tN
                              have HB:=rP
                              clear dG dM dW fK iO jE lg pz tN rP
                              have hHeld:yl.cell? ⟨dI,0,none⟩=some (.int .u8 dh)∧yl.cell? ⟨dI,1,none⟩=some (.int .u8 df)∧yl.cell? ⟨dI,2,none⟩=some (.int .u8 cZ)∧yl.cell? ⟨dI,3,none⟩=some (.int .u8 cO)∧yl.cell? ⟨dI,4,none⟩=some (.int .i64 cu):=kJ
                              refine jB (a':=?_) ?_ ?_
                              rotate_left
                              · simp only [lK,Act.put,List.setIfInBounds_toArray,List.set_cons_zero,List.set_cons_succ]
                                rfl
                              refine sW (i:=10) (N:=none) #[true,true,true,true,true,true,true,true,true,true,true,false] rfl rfl (kC dR.out (by kernel_rfl)) (by decide) (fun K hK=>?_)
                              have anc:yl.cell? ⟨bT,0,none⟩=some (.int .u8 0):=(ax iD.out 0).trans rfl
                              have alS:=ay iD.out 0
                              have aeg:=dP.out
                              have aef:=bn.out
                              have aeK:=gy.out
                              have aeJ:=gJ.out
                              have anb:yl.cell? ⟨bT,1,none⟩=some (.int .u8 0):=(ax iD.out 1).trans rfl
                              have alR:=ay iD.out 1
                              have aee:=dP.out
                              have aed:=bn.out
                              have aeI:=gy.out
                              have aeH:=gJ.out
                              have ana:yl.cell? ⟨bT,2,none⟩=some (.int .u8 0):=(ax iD.out 2).trans rfl
                              have alQ:=ay iD.out 2
                              have aec:=dP.out
                              have aeb:=bn.out
                              have aeG:=gy.out
                              have aeF:=gJ.out
                              have am9:yl.cell? ⟨bT,3,none⟩=some (.int .u8 0):=(ax iD.out 3).trans rfl
                              have alP:=ay iD.out 3
                              have aea:=dP.out
                              have ad9:=bn.out
                              have aeE:=gy.out
                              have aeD:=gJ.out
                              have am8:yl.cell? ⟨bT,4,none⟩=some (.int .i64 0):=(ax iD.out 4).trans rfl
                              have alO:=ay iD.out 4
                              have ad8:=dP.out
                              have ad7:=bn.out
                              have aeC:=gy.out
                              have aeB:=gJ.out
                              refine Dn (w1:=?_) (by rfl) rfl ?_ ?_
                              rotate_left
                              · go_simp
                                rfl
                              refine hK.out _ _ ⟨((cell_far (p:=⟨bT,_,none⟩) bn.out _).trans (((cell_far (p:=⟨bT,_,none⟩) bn.out _).trans (((cell_far (p:=⟨bT,_,none⟩) bn.out _).trans (((cell_far (p:=⟨bT,_,none⟩) bn.out _).trans (((cell_far (p:=⟨bT,_,none⟩) bn.out _).trans (hHeld.1)))))))))),((cell_far (p:=⟨bT,_,none⟩) bn.out _).trans (((cell_far (p:=⟨bT,_,none⟩) bn.out _).trans (((cell_far (p:=⟨bT,_,none⟩) bn.out _).trans (((cell_far (p:=⟨bT,_,none⟩) bn.out _).trans (((cell_far (p:=⟨bT,_,none⟩) bn.out _).trans (hHeld.2.1)))))))))),((cell_far (p:=⟨bT,_,none⟩) bn.out _).trans (((cell_far (p:=⟨bT,_,none⟩) bn.out _).trans (((cell_far (p:=⟨bT,_,none⟩) bn.out _).trans (((cell_far (p:=⟨bT,_,none⟩) bn.out _).trans (((cell_far (p:=⟨bT,_,none⟩) bn.out _).trans (hHeld.2.2.1)))))))))),((cell_far (p:=⟨bT,_,none⟩) bn.out _).trans (((cell_far (p:=⟨bT,_,none⟩) bn.out _).trans (((cell_far (p:=⟨bT,_,none⟩) bn.out _).trans (((cell_far (p:=⟨bT,_,none⟩) bn.out _).trans (((cell_far (p:=⟨bT,_,none⟩) bn.out _).trans (hHeld.2.2.2.1)))))))))),((cell_far (p:=⟨bT,_,none⟩) bn.out _).trans (((cell_far (p:=⟨bT,_,none⟩) bn.out _).trans (((cell_far (p:=⟨bT,_,none⟩) bn.out _).trans (((cell_far (p:=⟨bT,_,none⟩) bn.out _).trans (((cell_far (p:=⟨bT,_,none⟩) bn.out _).trans (hHeld.2.2.2.2))))))))))⟩ (fun hHeld=>?_)
                              clear hK K
                              refine bJ (i:=11) (N:=some 12) (v:=?_) (a':=?_) #[true,true,true,true,true,true,true,true,true,true,true,true] rfl rfl (aW dR.out (by kernel_rfl)) (fun _ _ _ h=>h) (Or.inl ⟨by rfl,?_⟩) ?_ ?_
                              rotate_left
                              · intro w'
                                go_simp
                                with_reducible rfl
                              rotate_left
                              · simp only [Act.put,List.setIfInBounds_toArray,List.set_cons_zero,List.set_cons_succ,aN,aQ]
                                rfl
                              refine xm (qf dR.out (by kernel_rfl)) ?_
                              have alu:=kR.out
                              have ak2:=vS.out
                              have als:=dP.out
                              have ak1:=gy.out
                              have aib:yl.cell? ⟨eQ,0,none⟩=some (.int .u8 eu):=(ax dw.out 0).trans rfl
                              have aia:yl.cell? ⟨eQ,1,none⟩=some (.int .u8 dU):=(ax dw.out 1).trans rfl
                              have ah9:yl.cell? ⟨eQ,2,none⟩=some (.int .u8 dN):=(ax dw.out 2).trans rfl
                              have ah8:yl.cell? ⟨eQ,3,none⟩=some (.int .u8 dK):=(ax dw.out 3).trans rfl
                              have ah7:yl.cell? ⟨eQ,4,none⟩=some (.int .i64 dE):=(ax dw.out 4).trans rfl
                              have af1:=ay dw.out 0
                              have af0:=ay dw.out 1
                              have afZ:=ay dw.out 2
                              have afY:=ay dw.out 3
                              have afX:=ay dw.out 4
                              try go_wp2
                              refine bodyPost_ret (kP rfl _ _ eQ 27 #[.int .u8 0,.int .u8 0,.int .u8 0,.int .u8 0,.int .i64 0] (0,0) _ rfl (by (with_reducible repeat (first|refine ah ?_ _|refine ak ?_|refine ai ?_ _));refine bu (cs:=#[.int .u8 0,.int .u8 0,.int .u8 0,.int .u8 0,.int .i64 dE]) ?_ 4 _ rfl;(with_reducible repeat (first|refine ah ?_ _|refine ak ?_|refine ai ?_ _));refine bu (cs:=#[.int .u8 0,.int .u8 0,.int .u8 0,.int .u8 dK,.int .i64 dE]) ?_ 3 _ rfl;(with_reducible repeat (first|refine ah ?_ _|refine ak ?_|refine ai ?_ _));refine bu (cs:=#[.int .u8 0,.int .u8 0,.int .u8 dN,.int .u8 dK,.int .i64 dE]) ?_ 2 _ rfl;(with_reducible repeat (first|refine ah ?_ _|refine ak ?_|refine ai ?_ _));refine bu (cs:=#[.int .u8 0,.int .u8 dU,.int .u8 dN,.int .u8 dK,.int .i64 dE]) ?_ 1 _ rfl;(with_reducible repeat (first|refine ah ?_ _|refine ak ?_|refine ai ?_ _));refine bu (cs:=#[.int .u8 eu,.int .u8 dU,.int .u8 dN,.int .u8 dK,.int .i64 dE]) ?_ 0 _ rfl;(with_reducible repeat (first|refine ah ?_ _|refine ak ?_|refine ai ?_ _));refine di ?_ dP.out _;(with_reducible repeat (first|refine ah ?_ _|refine ak ?_|refine ai ?_ _));refine di ?_ dP.out _;(with_reducible repeat (first|refine ah ?_ _|refine ak ?_|refine ai ?_ _));refine di ?_ dP.out _;(with_reducible repeat (first|refine ah ?_ _|refine ak ?_|refine ai ?_ _));refine di ?_ dP.out _;(with_reducible repeat (first|refine ah ?_ _|refine ak ?_|refine ai ?_ _));refine di ?_ dP.out _;(with_reducible repeat (first|refine ah ?_ _|refine ak ?_|refine ai ?_ _));exact dw.out) Tryz.underlying27 rfl (by kernel_rfl)) rfl ?_
                              exact ⟨by first|rfl|(simp [bF,bD] <;> rfl)|(simp only [← zX];first|rfl|(simp [bF,bD] <;> rfl))|(simp [*,bF,bD] <;> rfl),by repeat (first|(with_reducible first|exact HB.out|apply au|apply af|apply aj|refine az ?_ jv.out|refine az ?_ ku.out|refine az ?_ nY.out)|exact HB.out)⟩
                          · rw [if_neg c20] at H
                            have RZ:(t222 == 0)=false:=beq_eq_false_iff_ne.mpr c20
                            have RY:(t222 != 0)=true:=bne_iff_ne.mpr c20
                            simp only [Option.some.injEq,Prod.mk.injEq] at H
                            obtain ⟨rfl,rfl,rfl,rfl,rfl,rfl⟩:=H
                            have DC:0≤((qZ):Int):=of_decide_eq_true (by first|(with_reducible assumption)|assumption)
                            have Dw:(qZ) < (l0.length:Int):=of_decide_eq_true (by first|(with_reducible assumption)|assumption)
                            obtain ⟨YH,e220,qA⟩:=Kd.fO HR0.out (qZ) DC Dw
                            cases e220
                            replace qA:=(HB.out.cell (World.block_lt_of_cell? w _ qA)).trans qA
                            replace DC:=eq_true DC
                            replace Dw:=eq_true Dw
                            try go_wp2_with (first|((with_reducible refine bQ (f:=47) rfl ?_);refine fZ (some 49) rfl rfl Tryz.func47 (by kernel_rfl) rfl #[.string (eF ByteArray.empty l0 (qZ))] rfl (by (try simp only [List.map_toArray,List.map_cons,List.map_nil]);first|done|(simp only [zX];rfl)|rfl|(simp only [List.length_drop,List.length_take];rfl)) ?_;(with_reducible refine (aC.calls k3 (eF ByteArray.empty l0 (qZ)) t221 t222 _ Tc.out).mono ?_);rintro e w' ⟨rfl,⟨nd,rfl⟩⟩;refine ⟨_,rfl,?_⟩;(try (rw [mY wr];generalize qg:World.drewN wr _=wr;have dG:ae (wr.heap[eQ]? = some (.cells #[.int .u8 eu,.int .u8 dU,.int .u8 dN,.int .u8 dK,.int .i64 dE] 27 (0,0))):=⟨by rw [← qg];exact (by (with_reducible repeat (first|refine ah ?_ _|refine ak ?_|refine ai ?_ _));exact dw.out)⟩;have dM:ae (wr.heap[dI]? = some (.cells #[.int .u8 dh,.int .u8 df,.int .u8 cZ,.int .u8 cO,.int .i64 cu] 27 (0,0))):=⟨by rw [← qg];exact (by (with_reducible repeat (first|refine ah ?_ _|refine ak ?_|refine ai ?_ _));exact bP.out)⟩;have dW:ae (Below w.heap.size w wr):=⟨by rw [← qg];exact (by repeat (first|(with_reducible first|exact HB.out|apply au|apply af|apply aj|refine az ?_ jv.out|refine az ?_ ku.out)|exact HB.out))⟩;clear dw bP HB qg;have dw:=dG;have bP:=dM;have HB:=dW;clear dG dM dW))))
                            have dG:=ae.mk (ak dw.out)
                            have dM:=ae.mk (ak bP.out)
                            have dW:=ae.mk (aj HB.out)
                            clear dw
                            clear bP
                            clear HB
                            have dw:=dG
                            have bP:=dM
                            have HB:=dW
                            clear dG dM dW
                            have Ia:0≤(oK:Int):=of_decide_eq_true (by first|(with_reducible assumption)|assumption)
                            have H7:oK < (t217.size:Int):=of_decide_eq_true (by first|(with_reducible assumption)|assumption)
                            have Qp:=kS t217 oK
                            replace Ia:=eq_true Ia
                            replace H7:=eq_true H7
                            refine sD (n:=12) (S:=fun w'=>w'.cell? ⟨dI,0,none⟩=some (.int .u8 dh)∧w'.cell? ⟨dI,1,none⟩=some (.int .u8 df)∧w'.cell? ⟨dI,2,none⟩=some (.int .u8 cZ)∧w'.cell? ⟨dI,3,none⟩=some (.int .u8 cO)∧w'.cell? ⟨dI,4,none⟩=some (.int .i64 cu)) (ds:=[]) #[false,false,false,false,false,false,false,false,false,false,false,false] (by kernel_rfl) rfl rfl ⟨(ax bP.out 0).trans rfl,(ax bP.out 1).trans rfl,(ax bP.out 2).trans rfl,(ax bP.out 3).trans rfl,(ax bP.out 4).trans rfl⟩ (fun hHeld=>?_);refine l9 aG.PI aG.JW (fun dR oJ=>?_)
                            generalize wr.drew=w48 at dw bP HB hHeld ⊢
                            refine bJ (i:=1) (N:=some 54) (v:=?_) (a':=?_) #[false,true,false,false,false,false,false,false,false,false,false,false] rfl rfl (aW dR.out (by kernel_rfl)) (fun _ _ _ h=>h) (Or.inl ⟨by rfl,?_⟩) ?_ ?_
                            rotate_left
                            · intro w'
                              go_simp
                              with_reducible rfl
                            rotate_left
                            · simp only [Act.put,List.setIfInBounds_toArray,List.set_cons_zero,List.set_cons_succ,aN,aQ]
                              rfl
                            refine bJ (i:=2) (N:=some 55) (v:=?_) (a':=?_) #[false,true,true,false,false,false,false,false,false,false,false,false] rfl rfl (aW dR.out (by kernel_rfl)) (fun _ _ _ h=>h) (Or.inl ⟨by rfl,?_⟩) ?_ ?_
                            rotate_left
                            · intro w'
                              go_simp
                              with_reducible rfl
                            rotate_left
                            · simp only [Act.put,List.setIfInBounds_toArray,List.set_cons_zero,List.set_cons_succ,aN,aQ]
                              rfl
                            refine bJ (i:=4) (N:=some 57) (v:=?_) (a':=?_) #[false,true,true,false,true,false,false,false,false,false,false,false] rfl rfl (aW dR.out (by kernel_rfl)) (fun _ _ _ h=>h) (Or.inl ⟨by rfl,?_⟩) ?_ ?_
                            rotate_left
                            · intro w'
                              go_simp
                              with_reducible rfl
                            rotate_left
                            · simp only [Act.put,List.setIfInBounds_toArray,List.set_cons_zero,List.set_cons_succ,aN,aQ]
                              rfl
                            refine iK (i:=0) (N:=some 53) (v:=?_) (a':=?_) #[true,true,true,false,true,false,false,false,false,false,false,false] rfl rfl (dH dR.out oJ.out (by kernel_rfl)) (fun _ _ _ h=>h) (Or.inl ⟨by rfl,?_⟩) hHeld ?_ ?_
                            rotate_left
                            · rintro w' ⟨s0,s1,s2,s3,s4⟩
                              go_simp
                              with_reducible rfl
                            rotate_left
                            · simp only [Act.put,List.setIfInBounds_toArray,List.set_cons_zero,List.set_cons_succ,aN,aQ]
                              rfl
                            refine iK (i:=3) (N:=some 56) (v:=?_) (a':=?_) #[true,true,true,true,true,false,false,false,false,false,false,false] rfl rfl (dH dR.out oJ.out (by kernel_rfl)) (fun _ _ _ h=>h) (Or.inl ⟨by rfl,?_⟩) hHeld ?_ ?_
                            rotate_left
                            · rintro w' ⟨s0,s1,s2,s3,s4⟩
                              go_simp
                              with_reducible rfl
                            rotate_left
                            · simp only [Act.put,List.setIfInBounds_toArray,List.set_cons_zero,List.set_cons_succ,aN,aQ]
                              rfl
                            refine Lh (σ:=Nat) 2 #[true,true,true,true,true,true,true,true,true,true,false,false] (fun s_=>[(58,.tuple #[.agg #[.int .u8 t223,.int .u8 t224,.int .u8 t225,.int .u8 t226,.int .i64 t227],.bool t228]),(11,.pointer (some ⟨s_,0,none⟩)),(52,.tuple #[.agg #[.int .u8 t223,.int .u8 t224,.int .u8 t225,.int .u8 t226,.int .i64 t227],.bool t228]),(59,.agg #[.int .u8 t223,.int .u8 t224,.int .u8 t225,.int .u8 t226,.int .i64 t227]),(60,.bool t228)]) (fun s_ w'=>(w'.cell? ⟨dI,0,none⟩=some (.int .u8 dh)∧w'.cell? ⟨dI,1,none⟩=some (.int .u8 df)∧w'.cell? ⟨dI,2,none⟩=some (.int .u8 cZ)∧w'.cell? ⟨dI,3,none⟩=some (.int .u8 cO)∧w'.cell? ⟨dI,4,none⟩=some (.int .i64 cu))∧(w'.heap[eQ]? = some (.cells #[.int .u8 eu,.int .u8 dU,.int .u8 dN,.int .u8 dK,.int .i64 dE] 27 (0,0)))∧(w'.heap[dI]? = some (.cells #[.int .u8 dh,.int .u8 df,.int .u8 cZ,.int .u8 cO,.int .i64 cu] 27 (0,0)))∧(w'.heap[s_]? = some (.cells #[.int .u8 0,.int .u8 0,.int .u8 0,.int .u8 0,.int .i64 0] 27 (0,0)))∧(w.heap.size≤s_)∧(w.heap.size≤s_)∧(eQ ≠ s_)∧(s_ ≠ eQ)∧(dI ≠ s_)∧(s_ ≠ dI)∧(Below w.heap.size w w')) ?_ ?_
                            rotate_left
                            · intro xk
                              refine Py (i:=5) (j:=9) (Ni:=some 58) (Nj:=some 11) #[true,true,true,true,true,true,false,false,false,false,false,false] #[true,true,true,true,true,false,false,false,false,true,false,false] rfl rfl rfl rfl (Dh dR.out (by kernel_rfl)) (by decide) (by decide) (fun K hK=>?_) (fun K hK=>?_)
                              · skip
                                refine sO Tryz.func48 (by kernel_rfl) rfl #[.agg #[.int .u8 dh,.int .u8 df,.int .u8 cZ,.int .u8 cO,.int .i64 cu],.int .u8 (bt t217 oK),.int .i64 t221] (by rfl) rfl rfl (by (try simp only [List.map_toArray,List.map_cons,List.map_nil]);first|done|rfl|(simp only [List.length_drop,List.length_take];rfl)) ?_
                                with_reducible refine (aT.calls k3 dh df cZ cO cu (bt t217 oK) t221 t223 t224 t225 t226 t227 t228 _ A19.out).mono ?_
                                rintro e Pm ⟨rfl,hb⟩
                                refine ⟨_,rfl,?_⟩
                                have dG:=ae.mk (bH (g:=eQ) (o:=.cells #[.int .u8 eu,.int .u8 dU,.int .u8 dN,.int .u8 dK,.int .i64 dE] 27 (0,0)) (by (with_reducible repeat (first|refine ah ?_ _|refine ak ?_|refine ai ?_ _));exact dw.out) hb)
                                have dM:=ae.mk (bH (g:=dI) (o:=.cells #[.int .u8 dh,.int .u8 df,.int .u8 cZ,.int .u8 cO,.int .i64 cu] 27 (0,0)) (by (with_reducible repeat (first|refine ah ?_ _|refine ak ?_|refine ai ?_ _));exact bP.out) hb)
                                have dW:=ae.mk (bf (by repeat (first|(with_reducible first|exact HB.out|apply au|apply af|apply aj|refine az ?_ jv.out|refine az ?_ ku.out)|exact HB.out)) hb)
                                clear dw
                                clear bP
                                clear HB
                                have dw:=dG
                                have bP:=dM
                                have HB:=dW
                                clear dG dM dW
                                (try clear hb)
                                (try clear hb2)
                                (try clear hk)
                                (try clear hi)
                                refine hK.out _ _ ⟨(ax bP.out 0).trans rfl,(ax bP.out 1).trans rfl,(ax bP.out 2).trans rfl,(ax bP.out 3).trans rfl,(ax bP.out 4).trans rfl⟩ (fun hHeld=>?_)
                                clear hK K
                                refine jB (a':=?_) ?_ ?_
                                rotate_left
                                · show Act.put _ (some 58) _=_
                                  simp only [Act.put,List.setIfInBounds_toArray,List.set_cons_zero,List.set_cons_succ,aN,aQ]
                                  rfl
                                refine bJ (i:=6) (N:=some 52) (v:=?_) (a':=?_) #[true,true,true,true,true,true,true,false,false,false,false,false] rfl rfl (aW dR.out (by kernel_rfl)) (fun _ _ _ h=>h) (Or.inl ⟨by rfl,?_⟩) ?_ ?_
                                rotate_left
                                · intro w'
                                  go_simp
                                  with_reducible rfl
                                rotate_left
                                · simp only [Act.put,List.setIfInBounds_toArray,List.set_cons_zero,List.set_cons_succ,aN,aQ]
                                  rfl
                                refine bJ (i:=7) (N:=some 59) (v:=?_) (a':=?_) #[true,true,true,true,true,true,true,true,false,false,false,false] rfl rfl (aW dR.out (by kernel_rfl)) (fun _ _ _ h=>h) (Or.inl ⟨by rfl,?_⟩) ?_ ?_
                                rotate_left
                                · intro w'
                                  go_simp
                                  with_reducible rfl
                                rotate_left
                                · simp only [Act.put,List.setIfInBounds_toArray,List.set_cons_zero,List.set_cons_succ,aN,aQ]
                                  rfl
                                refine bJ (i:=8) (N:=some 60) (v:=?_) (a':=?_) #[true,true,true,true,true,true,true,true,true,false,false,false] rfl rfl (aW dR.out (by kernel_rfl)) (fun _ _ _ h=>h) (Or.inl ⟨by rfl,?_⟩) ?_ ?_
                                rotate_left
                                · intro w'
                                  go_simp
                                  with_reducible rfl
                                rotate_left
                                · simp only [Act.put,List.setIfInBounds_toArray,List.set_cons_zero,List.set_cons_succ,aN,aQ]
                                  rfl
                                refine sW (i:=9) (N:=some 11) #[true,true,true,true,true,true,true,true,true,true,false,false] rfl rfl (kC dR.out (by kernel_rfl)) (by decide) (fun K hK=>?_)
                                refine vJ ?hg (N:=11) ?hd (cs:=#[.int .u8 0,.int .u8 0,.int .u8 0,.int .u8 0,.int .i64 0]) (t:=27) ?hr ?_;(case hd=>rfl);(case hg=>rfl);(case hr=>first|(go_simp;done)|(go_simp;rfl))
                                intro bT hg w50 hbox hb
                                have dG:=ae.mk (bH (g:=eQ) (o:=.cells #[.int .u8 eu,.int .u8 dU,.int .u8 dN,.int .u8 dK,.int .i64 dE] 27 (0,0)) (by (with_reducible repeat (first|refine ah ?_ _|refine ak ?_|refine ai ?_ _));exact dw.out) hb)
                                have dM:=ae.mk (bH (g:=dI) (o:=.cells #[.int .u8 dh,.int .u8 df,.int .u8 cZ,.int .u8 cO,.int .i64 cu] 27 (0,0)) (by (with_reducible repeat (first|refine ah ?_ _|refine ak ?_|refine ai ?_ _));exact bP.out) hb)
                                have dW:=ae.mk (bf (by repeat (first|(with_reducible first|exact HB.out|apply au|apply af|apply aj|refine az ?_ jv.out|refine az ?_ ku.out)|exact HB.out)) hb)
                                have fK:=ae.mk (hbox)
                                have iO:=ae.mk ((by rw [hg];exact (aZ (by repeat (first|(with_reducible first|exact HB.out|apply au|apply af|apply aj|refine az ?_ jv.out|refine az ?_ ku.out)|exact HB.out))):w.heap.size≤bT))
                                have jE:=ae.mk ((by rw [hg];exact (aZ (by repeat (first|(with_reducible first|exact HB.out|apply au|apply af|apply aj|refine az ?_ jv.out|refine az ?_ ku.out)|exact HB.out))):w.heap.size≤bT))
                                have lg:=ae.mk ((by rw [hg];exact Nat.ne_of_lt (gG (g:=eQ) (o:=.cells #[.int .u8 eu,.int .u8 dU,.int .u8 dN,.int .u8 dK,.int .i64 dE] 27 (0,0)) (by (with_reducible repeat (first|refine ah ?_ _|refine ak ?_|refine ai ?_ _));exact dw.out)):eQ ≠ bT))
                                have pz:=ae.mk ((by rw [hg];exact Nat.ne_of_gt (gG (g:=eQ) (o:=.cells #[.int .u8 eu,.int .u8 dU,.int .u8 dN,.int .u8 dK,.int .i64 dE] 27 (0,0)) (by (with_reducible repeat (first|refine ah ?_ _|refine ak ?_|refine ai ?_ _));exact dw.out)):bT ≠ eQ))
                                have tN:=ae.mk ((by rw [hg];exact Nat.ne_of_lt (gG (g:=dI) (o:=.cells #[.int .u8 dh,.int .u8 df,.int .u8 cZ,.int .u8 cO,.int .i64 cu] 27 (0,0)) (by (with_reducible repeat (first|refine ah ?_ _|refine ak ?_|refine ai ?_ _));exact bP.out)):dI ≠ bT))
                                have rP:=ae.mk ((by rw [hg];exact Nat.ne_of_gt (gG (g:=dI) (o:=.cells #[.int .u8 dh,.int .u8 df,.int .u8 cZ,.int .u8 cO,.int .i64 cu] 27 (0,0)) (by (with_reducible repeat (first|refine ah ?_ _|refine ak ?_|refine ai ?_ _));exact bP.out)):bT ≠ dI))
                                clear dw
                                clear bP
                                clear HB
                                have dw:=dG
                                have bP:=dM
                                have HB:=dW
                                have iD:=fK
                                have uK:=iO
                                have nY:=jE
                                have dP:=lg
                                have gy:=pz
                                have bn:=tN
                                have gJ:=rP
                                clear dG dM dW fK iO jE lg pz tN rP
                                clear hb hbox hg
                                refine hK.out _ _ ⟨(ax bP.out 0).trans rfl,(ax bP.out 1).trans rfl,(ax bP.out 2).trans rfl,(ax bP.out 3).trans rfl,(ax bP.out 4).trans rfl⟩ (fun hHeld=>?_)
                                clear hK K
                                refine jB (a':=?_) ?_ ?_
                                rotate_left
                                · show Act.put _ (some 11) _=_
                                  simp only [Act.put,List.setIfInBounds_toArray,List.set_cons_zero,List.set_cons_succ,aN,aQ]
                                  rfl
                                exact jB (by simp only [lK,Act.put,List.setIfInBounds_toArray,List.set_cons_zero,List.set_cons_succ]) (xk (bT) _ ⟨hHeld,(by (with_reducible repeat (first|refine ah ?_ _|refine ak ?_|refine ai ?_ _));exact dw.out),(by (with_reducible repeat (first|refine ah ?_ _|refine ak ?_|refine ai ?_ _));exact bP.out),(by (with_reducible repeat (first|refine ah ?_ _|refine ak ?_|refine ai ?_ _));exact iD.out),uK.out,nY.out,dP.out,gy.out,bn.out,gJ.out,(by repeat (first|(with_reducible first|exact HB.out|apply au|apply af|apply aj|refine az ?_ jv.out|refine az ?_ ku.out|refine az ?_ nY.out)|exact HB.out))⟩)
                              · skip
                                refine vJ ?hg (N:=11) ?hd (cs:=#[.int .u8 0,.int .u8 0,.int .u8 0,.int .u8 0,.int .i64 0]) (t:=27) ?hr ?_;(case hd=>rfl);(case hg=>rfl);(case hr=>first|(go_simp;done)|(go_simp;rfl))
                                intro bT hg Pm hbox hb
                                have dG:=ae.mk (bH (g:=eQ) (o:=.cells #[.int .u8 eu,.int .u8 dU,.int .u8 dN,.int .u8 dK,.int .i64 dE] 27 (0,0)) (by (with_reducible repeat (first|refine ah ?_ _|refine ak ?_|refine ai ?_ _));exact dw.out) hb)
                                have dM:=ae.mk (bH (g:=dI) (o:=.cells #[.int .u8 dh,.int .u8 df,.int .u8 cZ,.int .u8 cO,.int .i64 cu] 27 (0,0)) (by (with_reducible repeat (first|refine ah ?_ _|refine ak ?_|refine ai ?_ _));exact bP.out) hb)
                                have dW:=ae.mk (bf (by repeat (first|(with_reducible first|exact HB.out|apply au|apply af|apply aj|refine az ?_ jv.out|refine az ?_ ku.out)|exact HB.out)) hb)
                                have fK:=ae.mk (hbox)
                                have iO:=ae.mk ((by rw [hg];exact (aZ (by repeat (first|(with_reducible first|exact HB.out|apply au|apply af|apply aj|refine az ?_ jv.out|refine az ?_ ku.out)|exact HB.out))):w.heap.size≤bT))
                                have jE:=ae.mk ((by rw [hg];exact (aZ (by repeat (first|(with_reducible first|exact HB.out|apply au|apply af|apply aj|refine az ?_ jv.out|refine az ?_ ku.out)|exact HB.out))):w.heap.size≤bT))
                                have lg:=ae.mk ((by rw [hg];exact Nat.ne_of_lt (gG (g:=eQ) (o:=.cells #[.int .u8 eu,.int .u8 dU,.int .u8 dN,.int .u8 dK,.int .i64 dE] 27 (0,0)) (by (with_reducible repeat (first|refine ah ?_ _|refine ak ?_|refine ai ?_ _));exact dw.out)):eQ ≠ bT))
                                have pz:=ae.mk ((by rw [hg];exact Nat.ne_of_gt (gG (g:=eQ) (o:=.cells #[.int .u8 eu,.int .u8 dU,.int .u8 dN,.int .u8 dK,.int .i64 dE] 27 (0,0)) (by (with_reducible repeat (first|refine ah ?_ _|refine ak ?_|refine ai ?_ _));exact dw.out)):bT ≠ eQ))
                                have tN:=ae.mk ((by rw [hg];exact Nat.ne_of_lt (gG (g:=dI) (o:=.cells #[.int .u8 dh,.int .u8 df,.int .u8 cZ,.int .u8 cO,.int .i64 cu] 27 (0,0)) (by (with_reducible repeat (first|refine ah ?_ _|refine ak ?_|refine ai ?_ _));exact bP.out)):dI ≠ bT))
                                have rP:=ae.mk ((by rw [hg];exact Nat.ne_of_gt (gG (g:=dI) (o:=.cells #[.int .u8 dh,.int .u8 df,.int .u8 cZ,.int .u8 cO,.int .i64 cu] 27 (0,0)) (by (with_reducible repeat (first|refine ah ?_ _|refine ak ?_|refine ai ?_ _));exact bP.out)):bT ≠ dI))
                                clear dw
                                clear bP
                                clear HB
                                have dw:=dG
                                have bP:=dM
                                have HB:=dW
                                have iD:=fK
                                have uK:=iO
                                have nY:=jE
                                have dP:=lg
                                have gy:=pz
                                have bn:=tN
                                have gJ:=rP
                                clear dG dM dW fK iO jE lg pz tN rP
                                clear hb hbox hg
                                refine hK.out _ _ ⟨(ax bP.out 0).trans rfl,(ax bP.out 1).trans rfl,(ax bP.out 2).trans rfl,(ax bP.out 3).trans rfl,(ax bP.out 4).trans rfl⟩ (fun hHeld=>?_)
                                clear hK K
                                refine jB (a':=?_) ?_ ?_
                                rotate_left
                                · show Act.put _ (some 11) _=_
                                  simp only [Act.put,List.setIfInBounds_toArray,List.set_cons_zero,List.set_cons_succ,aN,aQ]
                                  rfl
                                refine sW (i:=5) (N:=some 58) #[true,true,true,true,true,true,false,false,false,true,false,false] rfl rfl (kC dR.out (by kernel_rfl)) (by decide) (fun K hK=>?_)
                                refine sO Tryz.func48 (by kernel_rfl) rfl #[.agg #[.int .u8 dh,.int .u8 df,.int .u8 cZ,.int .u8 cO,.int .i64 cu],.int .u8 (bt t217 oK),.int .i64 t221] (by rfl) rfl rfl (by (try simp only [List.map_toArray,List.map_cons,List.map_nil]);first|done|rfl|(simp only [List.length_drop,List.length_take];rfl)) ?_
                                with_reducible refine (aT.calls k3 dh df cZ cO cu (bt t217 oK) t221 t223 t224 t225 t226 t227 t228 _ A19.out).mono ?_
                                rintro e w50 ⟨rfl,hb⟩
                                refine ⟨_,rfl,?_⟩
                                have dG:=ae.mk (bH (g:=eQ) (o:=.cells #[.int .u8 eu,.int .u8 dU,.int .u8 dN,.int .u8 dK,.int .i64 dE] 27 (0,0)) (by (with_reducible repeat (first|refine ah ?_ _|refine ak ?_|refine ai ?_ _));exact dw.out) hb)
                                have dM:=ae.mk (bH (g:=dI) (o:=.cells #[.int .u8 dh,.int .u8 df,.int .u8 cZ,.int .u8 cO,.int .i64 cu] 27 (0,0)) (by (with_reducible repeat (first|refine ah ?_ _|refine ak ?_|refine ai ?_ _));exact bP.out) hb)
                                have dW:=ae.mk (bH (g:=bT) (o:=.cells #[.int .u8 0,.int .u8 0,.int .u8 0,.int .u8 0,.int .i64 0] 27 (0,0)) (by (with_reducible repeat (first|refine ah ?_ _|refine ak ?_|refine ai ?_ _));exact iD.out) hb)
                                have fK:=ae.mk (bf (by repeat (first|(with_reducible first|exact HB.out|apply au|apply af|apply aj|refine az ?_ jv.out|refine az ?_ ku.out|refine az ?_ nY.out)|exact HB.out)) hb)
                                clear dw
                                clear bP
                                clear iD
                                clear HB
                                have dw:=dG
                                have bP:=dM
                                have iD:=dW
                                have HB:=fK
                                clear dG dM dW fK
                                (try clear hb)
                                (try clear hb2)
                                (try clear hk)
                                (try clear hi)
                                refine hK.out _ _ ⟨(ax bP.out 0).trans rfl,(ax bP.out 1).trans rfl,(ax bP.out 2).trans rfl,(ax bP.out 3).trans rfl,(ax bP.out 4).trans rfl⟩ (fun hHeld=>?_)
                                clear hK K
                                refine jB (a':=?_) ?_ ?_
                                rotate_left
                                · show Act.put _ (some 58) _=_
                                  simp only [Act.put,List.setIfInBounds_toArray,List.set_cons_zero,List.set_cons_succ,aN,aQ]
                                  rfl
                                refine bJ (i:=6) (N:=some 52) (v:=?_) (a':=?_) #[true,true,true,true,true,true,true,false,false,true,false,false] rfl rfl (aW dR.out (by kernel_rfl)) (fun _ _ _ h=>h) (Or.inl ⟨by rfl,?_⟩) ?_ ?_
                                rotate_left
                                · intro w'
                                  go_simp
                                  with_reducible rfl
                                rotate_left
                                · simp only [Act.put,List.setIfInBounds_toArray,List.set_cons_zero,List.set_cons_succ,aN,aQ]
                                  rfl
                                refine bJ (i:=7) (N:=some 59) (v:=?_) (a':=?_) #[true,true,true,true,true,true,true,true,false,true,false,false] rfl rfl (aW dR.out (by kernel_rfl)) (fun _ _ _ h=>h) (Or.inl ⟨by rfl,?_⟩) ?_ ?_
                                rotate_left
                                · intro w'
                                  go_simp
                                  with_reducible rfl
                                rotate_left
                                · simp only [Act.put,List.setIfInBounds_toArray,List.set_cons_zero,List.set_cons_succ,aN,aQ]
                                  rfl
                                refine bJ (i:=8) (N:=some 60) (v:=?_) (a':=?_) #[true,true,true,true,true,true,true,true,true,true,false,false] rfl rfl (aW dR.out (by kernel_rfl)) (fun _ _ _ h=>h) (Or.inl ⟨by rfl,?_⟩) ?_ ?_
                                rotate_left
                                · intro w'
                                  go_simp
                                  with_reducible rfl
                                rotate_left
                                · simp only [Act.put,List.setIfInBounds_toArray,List.set_cons_zero,List.set_cons_succ,aN,aQ]
                                  rfl
                                exact jB (by simp only [lK,Act.put,List.setIfInBounds_toArray,List.set_cons_zero,List.set_cons_succ]) (xk (bT) _ ⟨hHeld,(by (with_reducible repeat (first|refine ah ?_ _|refine ak ?_|refine ai ?_ _));exact dw.out),(by (with_reducible repeat (first|refine ah ?_ _|refine ak ?_|refine ai ?_ _));exact bP.out),(by (with_reducible repeat (first|refine ah ?_ _|refine ak ?_|refine ai ?_ _));exact iD.out),uK.out,nY.out,dP.out,gy.out,bn.out,gJ.out,(by repeat (first|(with_reducible first|exact HB.out|apply au|apply af|apply aj|refine az ?_ jv.out|refine az ?_ ku.out|refine az ?_ nY.out)|exact HB.out))⟩)
                            rintro bT FQ ⟨kJ,Rl,Rk,Rj,Ri,Rh,Yv,Yu,Yt,Yr,Yq⟩
                            have dG:ae (FQ.heap[eQ]? = some (.cells #[.int .u8 eu,.int .u8 dU,.int .u8 dN,.int .u8 dK,.int .i64 dE] 27 (0,0))):=⟨Rl⟩
                            have dM:ae (FQ.heap[dI]? = some (.cells #[.int .u8 dh,.int .u8 df,.int .u8 cZ,.int .u8 cO,.int .i64 cu] 27 (0,0))):=⟨Rk⟩
                            have dW:ae (FQ.heap[bT]? = some (.cells #[.int .u8 0,.int .u8 0,.int .u8 0,.int .u8 0,.int .i64 0] 27 (0,0))):=⟨Rj⟩
                            have fK:ae (w.heap.size≤bT):=⟨Ri⟩
                            have iO:ae (w.heap.size≤bT):=⟨Rh⟩
                            have jE:ae (eQ ≠ bT):=⟨Yv⟩
                            have lg:ae (bT ≠ eQ):=⟨Yu⟩
                            have pz:ae (dI ≠ bT):=⟨Yt⟩
                            have tN:ae (bT ≠ dI):=⟨Yr⟩
                            have rP:ae (Below w.heap.size w FQ):=⟨Yq⟩
                            clear dw
                            clear bP
                            clear HB
                            clear Rl Rk Rj Ri Rh Yv Yu Yt Yr Yq
                            have dw:=dG
                            have bP:=dM
                            have iD:=dW
                            have uK:=fK
                            have nY:=iO
                            have dP:=jE
                            have gy:=lg
                            have bn:=pz
                            have gJ:=tN
                            have HB:=rP
                            clear dG dM dW fK iO jE lg pz tN rP
                            have hHeld:FQ.cell? ⟨dI,0,none⟩=some (.int .u8 dh)∧FQ.cell? ⟨dI,1,none⟩=some (.int .u8 df)∧FQ.cell? ⟨dI,2,none⟩=some (.int .u8 cZ)∧FQ.cell? ⟨dI,3,none⟩=some (.int .u8 cO)∧FQ.cell? ⟨dI,4,none⟩=some (.int .i64 cu):=kJ
                            refine jB (a':=?_) ?_ ?_
                            rotate_left
                            · simp only [lK,Act.put,List.setIfInBounds_toArray,List.set_cons_zero,List.set_cons_succ]
                              rfl
                            refine sW (i:=10) (N:=none) #[true,true,true,true,true,true,true,true,true,true,true,false] rfl rfl (kC dR.out (by kernel_rfl)) (by decide) (fun K hK=>?_)
                            have am7:FQ.cell? ⟨bT,0,none⟩=some (.int .u8 0):=(ax iD.out 0).trans rfl
                            have alN:=ay iD.out 0
                            have ad6:=dP.out
                            have ad5:=bn.out
                            have aeA:=gy.out
                            have aez:=gJ.out
                            have am6:FQ.cell? ⟨bT,1,none⟩=some (.int .u8 0):=(ax iD.out 1).trans rfl
                            have alM:=ay iD.out 1
                            have ad4:=dP.out
                            have ad2:=bn.out
                            have aey:=gy.out
                            have aex:=gJ.out
                            have am5:FQ.cell? ⟨bT,2,none⟩=some (.int .u8 0):=(ax iD.out 2).trans rfl
                            have alL:=ay iD.out 2
                            have adZ:=dP.out
                            have adY:=bn.out
                            have aew:=gy.out
                            have aev:=gJ.out
                            have am4:FQ.cell? ⟨bT,3,none⟩=some (.int .u8 0):=(ax iD.out 3).trans rfl
                            have alK:=ay iD.out 3
                            have adX:=dP.out
                            have adW:=bn.out
                            have aeu:=gy.out
                            have aet:=gJ.out
                            have am3:FQ.cell? ⟨bT,4,none⟩=some (.int .i64 0):=(ax iD.out 4).trans rfl
                            have alJ:=ay iD.out 4
                            have adV:=dP.out
                            have adU:=bn.out
                            have aes:=gy.out
                            have aer:=gJ.out
                            refine Dn (w1:=?_) (by rfl) rfl ?_ ?_
                            rotate_left
                            · go_simp
                              rfl
                            refine hK.out _ _ ⟨((cell_far (p:=⟨bT,_,none⟩) bn.out _).trans (((cell_far (p:=⟨bT,_,none⟩) bn.out _).trans (((cell_far (p:=⟨bT,_,none⟩) bn.out _).trans (((cell_far (p:=⟨bT,_,none⟩) bn.out _).trans (((cell_far (p:=⟨bT,_,none⟩) bn.out _).trans (hHeld.1)))))))))),((cell_far (p:=⟨bT,_,none⟩) bn.out _).trans (((cell_far (p:=⟨bT,_,none⟩) bn.out _).trans (((cell_far (p:=⟨bT,_,none⟩) bn.out _).trans (((cell_far (p:=⟨bT,_,none⟩) bn.out _).trans (((cell_far (p:=⟨bT,_,none⟩) bn.out _).trans (hHeld.2.1)))))))))),((cell_far (p:=⟨bT,_,none⟩) bn.out _).trans (((cell_far (p:=⟨bT,_,none⟩) bn.out _).trans (((cell_far (p:=⟨bT,_,none⟩) bn.out _).trans (((cell_far (p:=⟨bT,_,none⟩) bn.out _).trans (((cell_far (p:=⟨bT,_,none⟩) bn.out _).trans (hHeld.2.2.1)))))))))),((cell_far (p:=⟨bT,_,none⟩) bn.out _).trans (((cell_far (p:=⟨bT,_,none⟩) bn.out _).trans (((cell_far (p:=⟨bT,_,none⟩) bn.out _).trans (((cell_far (p:=⟨bT,_,none⟩) bn.out _).trans (((cell_far (p:=⟨bT,_,none⟩) bn.out _).trans (hHeld.2.2.2.1)))))))))),((cell_far (p:=⟨bT,_,none⟩) bn.out _).trans (((cell_far (p:=⟨bT,_,none⟩) bn.out _).trans (((cell_far (p:=⟨bT,_,none⟩) bn.out _).trans (((cell_far (p:=⟨bT,_,none⟩) bn.out _).trans (((cell_far (p:=⟨bT,_,none⟩) bn.out _).trans (hHeld.2.2.2.2))))))))))⟩ (fun hHeld=>?_)
                            clear hK K
                            refine bJ (i:=11) (N:=some 12) (v:=?_) (a':=?_) #[true,true,true,true,true,true,true,true,true,true,true,true] rfl rfl (aW dR.out (by kernel_rfl)) (fun _ _ _ h=>h) (Or.inl ⟨by rfl,?_⟩) ?_ ?_
                            rotate_left
                            · intro w'
                              go_simp
                              with_reducible rfl
                            rotate_left
                            · simp only [Act.put,List.setIfInBounds_toArray,List.set_cons_zero,List.set_cons_succ,aN,aQ]
                              rfl
                            refine xm (qf dR.out (by kernel_rfl)) ?_
                            have aln:=kR.out
                            have akW:=vS.out
                            have alm:=dP.out
                            have akV:=gy.out
                            have ahH:FQ.cell? ⟨eQ,0,none⟩=some (.int .u8 eu):=(ax dw.out 0).trans rfl
                            have ahG:FQ.cell? ⟨eQ,1,none⟩=some (.int .u8 dU):=(ax dw.out 1).trans rfl
                            have ahF:FQ.cell? ⟨eQ,2,none⟩=some (.int .u8 dN):=(ax dw.out 2).trans rfl
                            have ahE:FQ.cell? ⟨eQ,3,none⟩=some (.int .u8 dK):=(ax dw.out 3).trans rfl
                            have ahD:FQ.cell? ⟨eQ,4,none⟩=some (.int .i64 dE):=(ax dw.out 4).trans rfl
                            have afx:=ay dw.out 0
                            have afw:=ay dw.out 1
                            have afv:=ay dw.out 2
                            have afu:=ay dw.out 3
                            have aft:=ay dw.out 4
                            try go_wp2
                            refine bodyPost_ret (kP rfl _ _ eQ 27 #[.int .u8 0,.int .u8 0,.int .u8 0,.int .u8 0,.int .i64 0] (0,0) _ rfl (by (with_reducible repeat (first|refine ah ?_ _|refine ak ?_|refine ai ?_ _));refine bu (cs:=#[.int .u8 0,.int .u8 0,.int .u8 0,.int .u8 0,.int .i64 dE]) ?_ 4 _ rfl;(with_reducible repeat (first|refine ah ?_ _|refine ak ?_|refine ai ?_ _));refine bu (cs:=#[.int .u8 0,.int .u8 0,.int .u8 0,.int .u8 dK,.int .i64 dE]) ?_ 3 _ rfl;(with_reducible repeat (first|refine ah ?_ _|refine ak ?_|refine ai ?_ _));refine bu (cs:=#[.int .u8 0,.int .u8 0,.int .u8 dN,.int .u8 dK,.int .i64 dE]) ?_ 2 _ rfl;(with_reducible repeat (first|refine ah ?_ _|refine ak ?_|refine ai ?_ _));refine bu (cs:=#[.int .u8 0,.int .u8 dU,.int .u8 dN,.int .u8 dK,.int .i64 dE]) ?_ 1 _ rfl;(with_reducible repeat (first|refine ah ?_ _|refine ak ?_|refine ai ?_ _));refine bu (cs:=#[.int .u8 eu,.int .u8 dU,.int .u8 dN,.int .u8 dK,.int .i64 dE]) ?_ 0 _ rfl;(with_reducible repeat (first|refine ah ?_ _|refine ak ?_|refine ai ?_ _));refine di ?_ dP.out _;(with_reducible repeat (first|refine ah ?_ _|refine ak ?_|refine ai ?_ _));refine di ?_ dP.out _;(with_reducible repeat (first|refine ah ?_ _|refine ak ?_|refine ai ?_ _));refine di ?_ dP.out _;(with_reducible repeat (first|refine ah ?_ _|refine ak ?_|refine ai ?_ _));refine di ?_ dP.out _;(with_reducible repeat (first|refine ah ?_ _|refine ak ?_|refine ai ?_ _));refine di ?_ dP.out _;(with_reducible repeat (first|refine ah ?_ _|refine ak ?_|refine ai ?_ _));exact dw.out) Tryz.underlying27 rfl (by kernel_rfl)) rfl ?_
                            exact ⟨by first|rfl|(simp [bF,bD] <;> rfl)|(simp only [← zX];first|rfl|(simp [bF,bD] <;> rfl))|(simp [*,bF,bD] <;> rfl),by repeat (first|(with_reducible first|exact HB.out|apply au|apply af|apply aj|refine az ?_ jv.out|refine az ?_ ku.out|refine az ?_ nY.out)|exact HB.out)⟩
                        · rw [if_neg c17] at H
                          exact absurd H (by simp)
                      · rw [if_neg c15] at H
                        exact absurd H (by simp)
                    · rw [if_neg c14] at H
                      exact absurd H (by simp)
                  · rw [if_neg c12] at H
                    have BJ:decide (oK < (t217.size:Int))=false:=decide_eq_false c12
                    clear c12
                    simp only [Option.some.injEq,Prod.mk.injEq] at H
                    obtain ⟨rfl,rfl,rfl,rfl,rfl,rfl⟩:=H
                    have alk:=vS.out
                    have akU:=kR.out
                    have ahC:wr.cell? ⟨dI,0,none⟩=some (.int .u8 dh):=(ax bP.out 0).trans rfl
                    have ahB:wr.cell? ⟨dI,1,none⟩=some (.int .u8 df):=(ax bP.out 1).trans rfl
                    have ahA:wr.cell? ⟨dI,2,none⟩=some (.int .u8 cZ):=(ax bP.out 2).trans rfl
                    have ahz:wr.cell? ⟨dI,3,none⟩=some (.int .u8 cO):=(ax bP.out 3).trans rfl
                    have ahy:wr.cell? ⟨dI,4,none⟩=some (.int .i64 cu):=(ax bP.out 4).trans rfl
                    have afs:=ay bP.out 0
                    have afr:=ay bP.out 1
                    have afq:=ay bP.out 2
                    have afp:=ay bP.out 3
                    have afo:=ay bP.out 4
                    have ahx:wr.cell? ⟨eQ,0,none⟩=some (.int .u8 eu):=(ax dw.out 0).trans rfl
                    have ahw:wr.cell? ⟨eQ,1,none⟩=some (.int .u8 dU):=(ax dw.out 1).trans rfl
                    have ahv:wr.cell? ⟨eQ,2,none⟩=some (.int .u8 dN):=(ax dw.out 2).trans rfl
                    have ahu:wr.cell? ⟨eQ,3,none⟩=some (.int .u8 dK):=(ax dw.out 3).trans rfl
                    have aht:wr.cell? ⟨eQ,4,none⟩=some (.int .i64 dE):=(ax dw.out 4).trans rfl
                    have afn:=ay dw.out 0
                    have afm:=ay dw.out 1
                    have afl:=ay dw.out 2
                    have afk:=ay dw.out 3
                    have afj:=ay dw.out 4
                    go_wp2
                    refine bodyPost_ret (kP rfl _ _ eQ 27 #[.int .u8 dh,.int .u8 df,.int .u8 cZ,.int .u8 cO,.int .i64 cu] (0,0) _ rfl (by (with_reducible repeat (first|refine ah ?_ _|refine ak ?_|refine ai ?_ _));refine bu (cs:=#[.int .u8 dh,.int .u8 df,.int .u8 cZ,.int .u8 cO,.int .i64 dE]) ?_ 4 _ rfl;(with_reducible repeat (first|refine ah ?_ _|refine ak ?_|refine ai ?_ _));refine bu (cs:=#[.int .u8 dh,.int .u8 df,.int .u8 cZ,.int .u8 dK,.int .i64 dE]) ?_ 3 _ rfl;(with_reducible repeat (first|refine ah ?_ _|refine ak ?_|refine ai ?_ _));refine bu (cs:=#[.int .u8 dh,.int .u8 df,.int .u8 dN,.int .u8 dK,.int .i64 dE]) ?_ 2 _ rfl;(with_reducible repeat (first|refine ah ?_ _|refine ak ?_|refine ai ?_ _));refine bu (cs:=#[.int .u8 dh,.int .u8 dU,.int .u8 dN,.int .u8 dK,.int .i64 dE]) ?_ 1 _ rfl;(with_reducible repeat (first|refine ah ?_ _|refine ak ?_|refine ai ?_ _));refine bu (cs:=#[.int .u8 eu,.int .u8 dU,.int .u8 dN,.int .u8 dK,.int .i64 dE]) ?_ 0 _ rfl;(with_reducible repeat (first|refine ah ?_ _|refine ak ?_|refine ai ?_ _));exact dw.out) Tryz.underlying27 rfl (by kernel_rfl)) rfl ?_
                    exact ⟨by first|rfl|(simp [bF,bD] <;> rfl)|(simp [*,bF,bD] <;> rfl),by repeat (first|(with_reducible first|exact HB.out|apply au|apply af|apply aj|refine az ?_ jv.out|refine az ?_ ku.out)|exact HB.out)⟩
      · rw [if_neg c3] at H
        have rW:decide (iT≤15)=false:=decide_eq_false c3
        clear c3
        simp only [Option.some.injEq,Prod.mk.injEq] at H
        obtain ⟨rfl,rfl,rfl,rfl,rfl,rfl⟩:=H
        have VP:wr.cell? ⟨eQ,0,none⟩=some (.int .u8 oD):=(ax dw.out 0).trans rfl
        have VO:wr.cell? ⟨eQ,1,none⟩=some (.int .u8 nN):=(ax dw.out 1).trans rfl
        have VN:wr.cell? ⟨eQ,2,none⟩=some (.int .u8 l7):=(ax dw.out 2).trans rfl
        have VM:wr.cell? ⟨eQ,3,none⟩=some (.int .u8 lT):=(ax dw.out 3).trans rfl
        have VL:wr.cell? ⟨eQ,4,none⟩=some (.int .i64 lh):=(ax dw.out 4).trans rfl
        have UE:=ay dw.out 0
        have UD:=ay dw.out 1
        have UC:=ay dw.out 2
        have UB:=ay dw.out 3
        have UA:=ay dw.out 4
        go_wp2
        refine bodyPost_ret (kP rfl _ _ eQ 27 #[.int .u8 0,.int .u8 0,.int .u8 0,.int .u8 0,.int .i64 0] (0,0) _ rfl (by (with_reducible repeat (first|refine ah ?_ _|refine ak ?_|refine ai ?_ _));refine bu (cs:=#[.int .u8 0,.int .u8 0,.int .u8 0,.int .u8 0,.int .i64 lh]) ?_ 4 _ rfl;(with_reducible repeat (first|refine ah ?_ _|refine ak ?_|refine ai ?_ _));refine bu (cs:=#[.int .u8 0,.int .u8 0,.int .u8 0,.int .u8 lT,.int .i64 lh]) ?_ 3 _ rfl;(with_reducible repeat (first|refine ah ?_ _|refine ak ?_|refine ai ?_ _));refine bu (cs:=#[.int .u8 0,.int .u8 0,.int .u8 l7,.int .u8 lT,.int .i64 lh]) ?_ 2 _ rfl;(with_reducible repeat (first|refine ah ?_ _|refine ak ?_|refine ai ?_ _));refine bu (cs:=#[.int .u8 0,.int .u8 nN,.int .u8 l7,.int .u8 lT,.int .i64 lh]) ?_ 1 _ rfl;(with_reducible repeat (first|refine ah ?_ _|refine ak ?_|refine ai ?_ _));refine bu (cs:=#[.int .u8 oD,.int .u8 nN,.int .u8 l7,.int .u8 lT,.int .i64 lh]) ?_ 0 _ rfl;(with_reducible repeat (first|refine ah ?_ _|refine ak ?_|refine ai ?_ _));exact dw.out) Tryz.underlying27 rfl (by kernel_rfl)) rfl ?_
        exact ⟨by first|rfl|(simp [bF,bD] <;> rfl)|(simp [*,bF,bD] <;> rfl),by repeat (first|(with_reducible first|exact HB.out|apply au|apply af|apply aj|refine az ?_ jv.out)|exact HB.out)⟩
end Go.Proofs.YtkclndkbccbhaaaGreatDoor.P
end
