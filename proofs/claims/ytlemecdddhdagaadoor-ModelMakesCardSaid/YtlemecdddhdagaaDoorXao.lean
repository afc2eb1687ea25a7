/- Parts of the proof of ModelMakes: what the functions that it reaches compute, and plain facts about that. -/
import Derived.Test.YtlemecdddhdagaaDoorXab
import Derived.Test.YtlemecdddhdagaaDoorXal
import Derived.Test.YtlemecdddhdagaaDoorXam
import Derived.Test.YtlemecdddhdagaaDoorXan
set_option linter.unusedVariables false
set_option linter.unusedSimpArgs false
section
namespace Go.Proofs.YtlemecdddhdagaaDoor.P
open Go.RowKit Go.Proofs.ag.bH Go.Proofs.ag.dM Go.Proofs.ag.dY
attribute [local go_sem] kR kP lU lT jM jL kQ kN
mutual
def aJ.l0:Nat→List ByteArray→Int→Option (Int × Int × Int × Int × Int × Bool)
 | 0,_,_=>none
 | k+1,x0,x4=>if x4≤15 then ((fC.f x4).bind fun J5=>(if 0 < (x0.length:Int) then (if (dV ByteArray.empty x0 0).toList=J5.1.toList then (aJ.j1 k x0 x4 J5.2 ((x0.length:Int) != (wrap64 ((J5.2.size:Int)+1)))) else (aJ.j1 k x0 x4 J5.2 true)) else (none))) else (some (0,0,0,0,0,false))
def aJ.j1:Nat→List ByteArray→Int→ByteArray→Bool→Option (Int × Int × Int × Int × Int × Bool)
 | 0,_,_,_,_=>none
 | k+1,x0,x4,x6,x34=>if x34=true then (aJ.l0 k x0 ((x4+1) % 256)) else (aJ.l1 k x0 x6 0 x4 0 0 0 0)
def aJ.l1:Nat→List ByteArray→ByteArray→Int→Int→Int→Int→Int→Int→Option (Int × Int × Int × Int × Int × Bool)
 | 0,_,_,_,_,_,_,_,_=>none
 | k+1,x0,x6,x8,H7,H6,H5,HY,Hz=>if x8 < (x6.size:Int) then (if 0≤(wrap64 (x8+1)) then (if (wrap64 (x8+1)) < (x0.length:Int) then ((aH.f k (dV ByteArray.empty x0 (wrap64 (x8+1)))).bind fun Fa=>(if 0≤x8 then ((aZ.f k H7 H6 H5 HY Hz (bt x6 x8) Fa.1).bind fun lN=>(if Fa.2=0 then (if lN.2.2.2.2.2=true then (aJ.l1 k x0 x6 (wrap64 (x8+1)) lN.1 lN.2.1 lN.2.2.1 lN.2.2.2.1 lN.2.2.2.2.1) else (some (0,0,0,0,0,false))) else (some (0,0,0,0,0,false)))) else (none))) else (none)) else (none)) else (some (H7,H6,H5,HY,Hz,true))
end
def aJ.f (k:Nat) (l0:List ByteArray):Option (Int × Int × Int × Int × Int × Bool):=aJ.l0 k l0 1
theorem aJ.gZ:∀ k,(∀ y0 y1,dK (aJ.l0 k y0 y1) (aJ.l0 (k+1) y0 y1))∧(∀ y0 y1 y2 y3,dK (aJ.j1 k y0 y1 y2 y3) (aJ.j1 (k+1) y0 y1 y2 y3))∧(∀ y0 y1 y2 y3 y4 y5 y6 y7,dK (aJ.l1 k y0 y1 y2 y3 y4 y5 y6 y7) (aJ.l1 (k+1) y0 y1 y2 y3 y4 y5 y6 y7))
 | 0=>⟨fun _ _ r h=>by simp [aJ.l0] at h,fun _ _ _ _ r h=>by simp [aJ.j1] at h,fun _ _ _ _ _ _ _ _ r h=>by simp [aJ.l1] at h⟩
 | k+1=>by
  obtain ⟨lu,ih1,ih2⟩:=aJ.gZ k
  refine ⟨?_,?_,?_⟩
  ·
   intro y0 y1
   unfold aJ.l0
   repeat' with_reducible first|apply lu|apply ih1|apply ih2|apply aH.mono|apply aZ.mono|exact dK.refl _|exact dK.none _|refine dK.ite ?_ ?_|refine dK.bind ?_ (fun _=>?_)
  ·
   intro y0 y1 y2 y3
   unfold aJ.j1
   repeat' with_reducible first|apply lu|apply ih1|apply ih2|apply aH.mono|apply aZ.mono|exact dK.refl _|exact dK.none _|refine dK.ite ?_ ?_|refine dK.bind ?_ (fun _=>?_)
  ·
   intro y0 y1 y2 y3 y4 y5 y6 y7
   unfold aJ.l1
   repeat' with_reducible first|apply lu|apply ih1|apply ih2|apply aH.mono|apply aZ.mono|exact dK.refl _|exact dK.none _|refine dK.ite ?_ ?_|refine dK.bind ?_ (fun _=>?_)
theorem aJ.mono:∀ a0 k,dK (aJ.f k a0) (aJ.f (k+1) a0):=by
 intro a0 k
 obtain ⟨lu,ih1,ih2⟩:=aJ.gZ k
 unfold aJ.f
 repeat' with_reducible first|apply lu|apply ih1|apply ih2|apply aH.mono|apply aZ.mono|exact dK.refl _|exact dK.none _|refine dK.ite ?_ ?_|refine dK.bind ?_ (fun _=>?_)
def aJ.T11:Bool × List (List Nat × List Nat):=(true,[([],[]),([],[]),([],[]),([1,2],[1,2]),([],[]),([0,3,4],[0,3,4]),([5],[5]),([6],[6]),([6],[6]),([],[]),([9,7,5,0,1,2,3,4,5,6,7,9],[7,9]),([8,10,0,1,2,3,4,5,6,7,8,9,10],[8])])
def aJ.B11:List Nat:=[0,0,0,6,0,31,63,127,127,0,767,2047]
theorem aJ.MR:pV .any (opsOf Tryd.f46 11)=aJ.T11:=by kernel_rfl
theorem aJ.Gz:qQ aJ.T11.2 aJ.B11=true:=by kernel_rfl
set_option maxHeartbeats 8000000 in
set_option maxRecDepth 100000 in
theorem aJ.calls (k:Nat) (A0:Option Addr) (c0:Nat) (l0:List ByteArray) (r1:Int) (r2:Int) (r3:Int) (r4:Int) (r5:Int) (r6:Bool) (w:World) (hr0:Kd.C Kd.string w A0 l0.length l0) (hc0:l0.length≤c0) (h:aJ.f k l0=some (r1,r2,r3,r4,r5,r6)) :
  Calls Tryd.prog 46 #[.slice A0 l0.length c0] w fun e w'=>e=.returned (.tuple #[.agg #[.int .u8 r1,.int .u8 r2,.int .u8 r3,.int .u8 r4,.int .i64 r5],.bool r6])∧Below w.heap.size w w':=by
 have AL:=Tryd.underlying55
 have HR0:=ae.mk hr0
 have tC:=ae.mk hc0
 clear hr0 hc0
 have HB:=ae.mk (Below.refl w.heap.size w)
 have H:(aJ.l0 k l0 1)=some (r1,r2,r3,r4,r5,r6):=h
 clear h
 have H':=ae.mk H
 clear H
 go_enter Tryd.func46,Tryd.ntmps46
 go_wp2_with (first|((with_reducible refine dN (N:=2) rfl ?_);(try (refine mZ (by rfl) ?_;dsimp only));refine fB ?hg (N:=2) ?hd (cs:=#[.int .u8 0,.int .u8 0,.int .u8 0,.int .u8 0,.int .i64 0]) (t:=55) ?hr ?_;(case hd=>rfl);(case hg=>rfl);(case hr=>first|(go_simp;done)|(go_simp;rfl));intro iG hg w2 hbox hb;have dS:=ae.mk (bg (by repeat (first|(with_reducible first|exact HB.out|apply ah|apply af|apply ai)|exact HB.out)) hb);have dR:=ae.mk (hbox);have dO:=ae.mk ((by rw [hg];exact (bQ (by repeat (first|(with_reducible first|exact HB.out|apply ah|apply af|apply ai)|exact HB.out))):w.heap.size≤iG));have gQ:=dO;clear HB;have HB:=dS;have fG:=dR;have am6:=dO;have jC:=gQ;clear dS dR dO gQ;clear hb hbox hg))
 go_loopg [4] k (fun kq v4 w'=>∃ (rO:Int) (nU:Int) (nz:Int) (mf:Int) (lG:Int) (kU:Int),v4=.int .u8 rO∧ae (aJ.l0 kq l0 rO=some (r1,r2,r3,r4,r5,r6))∧ae (kq≤k)∧ae (w'.heap[iG]? = some (.cells #[.int .u8 nU,.int .u8 nz,.int .u8 mf,.int .u8 lG,.int .i64 kU] 55 (0,0)))∧ae (Below w.heap.size w w'))
 case atStart=>exact ⟨(1),(0),(0),(0),(0),(0),(by first|rfl|(simp;done)|(simp [*];done)),H',⟨Nat.le_refl _⟩,⟨by (with_reducible repeat (first|refine au ?_ _|refine ay ?_|refine ak ?_ _));exact fG.out⟩,⟨by repeat (first|(with_reducible first|exact HB.out|apply ah|apply af|apply ai|refine aj ?_ jC.out)|exact HB.out)⟩⟩
 case round =>
  clear H'
  obtain ⟨rO,nU,nz,mf,lG,kU,rfl,HA,tq,fG,HB⟩:=hrel
  cases gk with
  | zero=>exact absurd HA.out (by simp [aJ.l0])
  | succ k1 =>
   have H:=HA.out
   clear HA
   simp only [aJ.l0] at H
   by_cases c3:rO≤15
   ·
    rw [if_pos c3] at H
    have nS:decide (rO≤15)=true:=decide_eq_true c3
    clear c3
    replace H:=Option.bind_eq_some_iff.mp H
    obtain ⟨⟨t111,t112⟩,Aw,H⟩:=H
    replace H:(if 0 < (l0.length:Int) then (if (dV ByteArray.empty l0 0).toList=t111.toList then (aJ.j1 k1 l0 rO t112 ((l0.length:Int) != (wrap64 ((t112.size:Int)+1)))) else (aJ.j1 k1 l0 rO t112 true)) else (none))=some (r1,r2,r3,r4,r5,r6):=H
    have A4:=ae.mk Aw
    clear Aw
    have GX:=ae.mk H
    clear H
    go_upto_region 5 with (first|((with_reducible refine bu (f:=45) rfl ?_);refine dQ (some 19) rfl rfl Tryd.func45 (by kernel_rfl) rfl #[.int .u8 rO] rfl (by (try simp only [List.map_toArray,List.map_cons,List.map_nil]);first|done|rfl|(simp only [List.length_drop,List.length_take];rfl)) ?_;(with_reducible refine (fC.calls rO t111 t112 _ A4.out).mono ?_);rintro e w' ⟨rfl,⟨nd,rfl⟩⟩;refine ⟨_,rfl,?_⟩))
    (try simp only [Act.put,List.setIfInBounds_toArray,List.set_cons_zero,List.set_cons_succ])
    go_cut [34] (fun v34 wc=>∃ (kq:Nat) (G7:Bool),v34=.bool G7∧ae (aJ.j1 kq l0 rO t112 G7=some (r1,r2,r3,r4,r5,r6))∧ae (kq≤k1)∧ae (wc.heap[iG]? = some (.cells #[.int .u8 nU,.int .u8 nz,.int .u8 mf,.int .u8 lG,.int .i64 kU] 55 (0,0)))∧ae (Below w.heap.size w wc))
    case first =>
     have H:=GX.out
     clear GX
     by_cases c6:0 < (l0.length:Int)
     ·
      rw [if_pos c6] at H
      have nP:decide (0 < (l0.length:Int))=true:=decide_eq_true c6
      have xE:decide (0 < l0.length)=true:=decide_eq_true (by omega)
      clear c6
      (first|rw [nP]|(simp only [bY,bZ];rw [nP])|skip)
      by_cases c7:(dV ByteArray.empty l0 0).toList=t111.toList
      ·
       rw [if_pos c7] at H
       have oG:((dV ByteArray.empty l0 0).toList == t111.toList)=true:=beq_iff_eq.mpr c7
       have yu:((dV ByteArray.empty l0 0).toList != t111.toList)=false:=bne_eq_false_iff_eq.mpr c7
       clear c7
       have H':=ae.mk H
       clear H
       have F5:0≤(0:Int):=(by omega)
       have FU:0 < (l0.length:Int):=of_decide_eq_true (by first|(with_reducible assumption)|assumption)
       obtain ⟨acx,Yu,ou⟩:=Kd.kC HR0.out 0 F5 FU
       cases Yu
       have ZJ:(0 < l0.length)=True:=eq_true (by omega)
       (try rw [show ((0:Int)).toNat=0 from rfl] at ou)
       (try rw [Addr.add_zero'] at ou)
       replace ou:=(HB.out.cell (World.block_lt_of_cell? w _ ou)).trans ou
       replace F5:=eq_true F5
       replace FU:=eq_true FU
       go_wp2
       go_meet
       case rel=>exact ⟨_,(((l0.length:Int) != (wrap64 ((t112.size:Int)+1)))),(by first|rfl|(simp;done)|(simp [*];done)),H',⟨by have:=tq.out;first|omega|exact Nat.le_refl _⟩,⟨by (with_reducible repeat (first|refine au ?_ _|refine ay ?_|refine ak ?_ _));exact fG.out⟩,⟨by repeat (first|(with_reducible first|exact HB.out|apply ah|apply af|apply ai|refine aj ?_ jC.out)|exact HB.out)⟩⟩
      ·
       rw [if_neg c7] at H
       have oG:((dV ByteArray.empty l0 0).toList == t111.toList)=false:=beq_eq_false_iff_ne.mpr c7
       have yu:((dV ByteArray.empty l0 0).toList != t111.toList)=true:=bne_iff_ne.mpr c7
       have H':=ae.mk H
       clear H
       have F5:0≤(0:Int):=(by omega)
       have FU:0 < (l0.length:Int):=of_decide_eq_true (by first|(with_reducible assumption)|assumption)
       obtain ⟨acx,Yu,ou⟩:=Kd.kC HR0.out 0 F5 FU
       cases Yu
       have ZJ:(0 < l0.length)=True:=eq_true (by omega)
       (try rw [show ((0:Int)).toNat=0 from rfl] at ou)
       (try rw [Addr.add_zero'] at ou)
       replace ou:=(HB.out.cell (World.block_lt_of_cell? w _ ou)).trans ou
       replace F5:=eq_true F5
       replace FU:=eq_true FU
       go_wp2
       go_meet
       case rel=>exact ⟨_,(true),(by first|rfl|(simp;done)|(simp [*];done)),H',⟨by have:=tq.out;first|omega|exact Nat.le_refl _⟩,⟨by (with_reducible repeat (first|refine au ?_ _|refine ay ?_|refine ak ?_ _));exact fG.out⟩,⟨by repeat (first|(with_reducible first|exact HB.out|apply ah|apply af|apply ai|refine aj ?_ jC.out)|exact HB.out)⟩⟩
     ·
      rw [if_neg c6] at H
      exact absurd H (by simp)
    case rest =>
     clear GX
     obtain ⟨kq,G7,rfl,HA,GV,fG,HB⟩:=hcut
     cases kq with
     | zero=>exact absurd HA.out (by simp [aJ.j1])
     | succ uI =>
      have H:=HA.out
      clear HA
      simp only [aJ.j1] at H
      by_cases c8:G7=true
      ·
       subst c8
       have H1:(aJ.l0 uI l0 ((rO+1) % 256))=some (r1,r2,r3,r4,r5,r6):=by rw [if_pos rfl] at H;exact H
       clear H
       have H:=H1
       clear H1
       have H':=ae.mk H
       clear H
       go_wp2
       go_roundg uI
       case measure=>have:=tq.out;have:=GV.out;omega
       case rel=>exact ⟨((rO+1) % 256),(nU),(nz),(mf),(lG),(kU),(by first|rfl|(simp;done)|(simp [*];done)),H',⟨by have:=tq.out;have:=GV.out;omega⟩,⟨by (with_reducible repeat (first|refine au ?_ _|refine ay ?_|refine ak ?_ _));exact fG.out⟩,⟨by repeat (first|(with_reducible first|exact HB.out|apply ah|apply af|apply ai|refine aj ?_ jC.out)|exact HB.out)⟩⟩
      ·
       replace c8:=Bool.eq_false_iff.mpr c8
       subst c8
       have H1:(aJ.l1 uI l0 t112 0 rO 0 0 0 0)=some (r1,r2,r3,r4,r5,r6):=by rw [if_neg (show ¬ (false=true) by decide)] at H;exact H
       clear H
       have H:=H1
       clear H1
       have H':=ae.mk H
       clear H
       go_wp2_with (first|((with_reducible refine dN (N:=7) rfl ?_);(try (refine mZ (by rfl) ?_;dsimp only));refine fB ?hg (N:=7) ?hd (cs:=#[.int .u8 0,.int .u8 0,.int .u8 0,.int .u8 0,.int .i64 0]) (t:=55) ?hr ?_;(case hd=>rfl);(case hg=>rfl);(case hr=>first|(go_simp;done)|(go_simp;rfl));intro eF hg w9 hbox hb;have dS:=ae.mk (bf (g:=iG) (o:=.cells #[.int .u8 nU,.int .u8 nz,.int .u8 mf,.int .u8 lG,.int .i64 kU] 55 (0,0)) (by (with_reducible repeat (first|refine au ?_ _|refine ay ?_|refine ak ?_ _));exact fG.out) hb);have dR:=ae.mk (bg (by repeat (first|(with_reducible first|exact HB.out|apply ah|apply af|apply ai|refine aj ?_ jC.out)|exact HB.out)) hb);have dO:=ae.mk (hbox);have gQ:=ae.mk ((by rw [hg];exact (bQ (by repeat (first|(with_reducible first|exact HB.out|apply ah|apply af|apply ai|refine aj ?_ jC.out)|exact HB.out))):w.heap.size≤eF));have lM:=gQ;have mg:=ae.mk ((by rw [hg];exact Nat.ne_of_lt (jY (g:=iG) (o:=.cells #[.int .u8 nU,.int .u8 nz,.int .u8 mf,.int .u8 lG,.int .i64 kU] 55 (0,0)) (by (with_reducible repeat (first|refine au ?_ _|refine ay ?_|refine ak ?_ _));exact fG.out)):iG ≠ eF));have nI:=ae.mk mg.out.symm;clear fG;clear HB;have fG:=dS;have HB:=dR;have bV:=dO;have KC:=gQ;have jw:=lM;have jR:=mg;have rJ:=nI;clear dS dR dO gQ lM mg nI;clear hb hbox hg;have alW:=rJ.out;have alu:=jR.out;obtain ⟨yU,yT,yS,yR,Vm,yM,yL,yK,yJ,TG⟩:=jO bV.out))
       go_loopg [8] uI (fun kq v8 w'=>∃ (mQ:Int) (gu:Int) (fZ:Int) (fM:Int) (fD:Int) (eP:Int) (dI:Int) (dH:Int) (dG:Int) (dF:Int) (dE:Int),v8=.int .i64 mQ∧ae (aJ.l1 kq l0 t112 mQ dI dH dG dF dE=some (r1,r2,r3,r4,r5,r6))∧ae (kq≤uI)∧ae (w'.heap[iG]? = some (.cells #[.int .u8 gu,.int .u8 fZ,.int .u8 fM,.int .u8 fD,.int .i64 eP] 55 (0,0)))∧ae (w'.heap[eF]? = some (.cells #[.int .u8 dI,.int .u8 dH,.int .u8 dG,.int .u8 dF,.int .i64 dE] 55 (0,0)))∧ae (Below w.heap.size w w'))
       case atStart=>exact ⟨(0),(nU),(nz),(mf),(lG),(kU),(rO),(0),(0),(0),(0),(by first|rfl|(simp;done)|(simp [*];done)),H',⟨Nat.le_refl _⟩,⟨by (with_reducible repeat (first|refine au ?_ _|refine ay ?_|refine ak ?_ _));refine fO ?_ jR.out _;(with_reducible repeat (first|refine au ?_ _|refine ay ?_|refine ak ?_ _));refine fO ?_ jR.out _;(with_reducible repeat (first|refine au ?_ _|refine ay ?_|refine ak ?_ _));refine fO ?_ jR.out _;(with_reducible repeat (first|refine au ?_ _|refine ay ?_|refine ak ?_ _));refine fO ?_ jR.out _;(with_reducible repeat (first|refine au ?_ _|refine ay ?_|refine ak ?_ _));refine fO ?_ jR.out _;(with_reducible repeat (first|refine au ?_ _|refine ay ?_|refine ak ?_ _));exact fG.out⟩,⟨by (with_reducible repeat (first|refine au ?_ _|refine ay ?_|refine ak ?_ _));refine dL (cs:=#[.int .u8 rO,.int .u8 0,.int .u8 0,.int .u8 0,.int .i64 0]) ?_ 4 _ rfl;(with_reducible repeat (first|refine au ?_ _|refine ay ?_|refine ak ?_ _));refine dL (cs:=#[.int .u8 rO,.int .u8 0,.int .u8 0,.int .u8 0,.int .i64 0]) ?_ 3 _ rfl;(with_reducible repeat (first|refine au ?_ _|refine ay ?_|refine ak ?_ _));refine dL (cs:=#[.int .u8 rO,.int .u8 0,.int .u8 0,.int .u8 0,.int .i64 0]) ?_ 2 _ rfl;(with_reducible repeat (first|refine au ?_ _|refine ay ?_|refine ak ?_ _));refine dL (cs:=#[.int .u8 rO,.int .u8 0,.int .u8 0,.int .u8 0,.int .i64 0]) ?_ 1 _ rfl;(with_reducible repeat (first|refine au ?_ _|refine ay ?_|refine ak ?_ _));refine dL (cs:=#[.int .u8 0,.int .u8 0,.int .u8 0,.int .u8 0,.int .i64 0]) ?_ 0 _ rfl;(with_reducible repeat (first|refine au ?_ _|refine ay ?_|refine ak ?_ _));exact bV.out⟩,⟨by repeat (first|(with_reducible first|exact HB.out|apply ah|apply af|apply ai|refine aj ?_ jC.out|refine aj ?_ jw.out)|exact HB.out)⟩⟩
       case round =>
        clear H'
        obtain ⟨mQ,gu,fZ,fM,fD,eP,dI,dH,dG,dF,dE,rfl,HA,Am,fG,bV,HB⟩:=hrel
        cases gk with
        | zero=>exact absurd HA.out (by simp [aJ.l1])
        | succ k3 =>
         have H:=HA.out
         clear HA
         simp only [aJ.l1] at H
         by_cases c12:mQ < (t112.size:Int)
         ·
          rw [if_pos c12] at H
          have vJ:decide (mQ < (t112.size:Int))=true:=decide_eq_true c12
          clear c12
          obtain ⟨oK,wI⟩:∃ j_:Int,(wrap64 (mQ+1))=j_:=⟨_,rfl⟩
          replace H:(if 0≤(oK) then (if (oK) < (l0.length:Int) then ((aH.f k3 (dV ByteArray.empty l0 (oK))).bind fun Fa=>(if 0≤mQ then ((aZ.f k3 dI dH dG dF dE (bt t112 mQ) Fa.1).bind fun lN=>(if Fa.2=0 then (if lN.2.2.2.2.2=true then (aJ.l1 k3 l0 t112 oK lN.1 lN.2.1 lN.2.2.1 lN.2.2.2.1 lN.2.2.2.2.1) else (some (0,0,0,0,0,false))) else (some (0,0,0,0,0,false)))) else (none))) else (none)) else (none))=some (r1,r2,r3,r4,r5,r6):=by first|(rw [wI] at H;exact H)|(simp only [wI] at H ⊢;exact H)
          have ajE:(IntKind.i64.wrap (mQ+1))=oK:=(bY _).trans wI
          by_cases c14:0≤(oK)
          ·
           rw [if_pos c14] at H
           have BL:decide (0≤(oK))=true:=decide_eq_true c14
           clear c14
           by_cases c15:(oK) < (l0.length:Int)
           ·
            rw [if_pos c15] at H
            have qh:decide ((oK) < (l0.length:Int))=true:=decide_eq_true c15
            clear c15
            replace H:=Option.bind_eq_some_iff.mp H
            obtain ⟨⟨t116,t117⟩,FB,H⟩:=H
            replace H:(if 0≤mQ then ((aZ.f k3 dI dH dG dF dE (bt t112 mQ) t116).bind fun lN=>(if t117=0 then (if lN.2.2.2.2.2=true then (aJ.l1 k3 l0 t112 oK lN.1 lN.2.1 lN.2.2.1 lN.2.2.2.1 lN.2.2.2.2.1) else (some (0,0,0,0,0,false))) else (some (0,0,0,0,0,false)))) else (none))=some (r1,r2,r3,r4,r5,r6):=H
            have Zj:=ae.mk FB
            clear FB
            by_cases c17:0≤mQ
            ·
             rw [if_pos c17] at H
             have xX:decide (0≤mQ)=true:=decide_eq_true c17
             clear c17
             replace H:=Option.bind_eq_some_iff.mp H
             obtain ⟨⟨t118,t119,t120,t121,t122,t123⟩,Fz,H⟩:=H
             replace H:(if t117=0 then (if t123=true then (aJ.l1 k3 l0 t112 oK t118 t119 t120 t121 t122) else (some (0,0,0,0,0,false))) else (some (0,0,0,0,0,false)))=some (r1,r2,r3,r4,r5,r6):=H
             have PW:=ae.mk Fz
             clear Fz
             by_cases c20:t117=0
             ·
              rw [if_pos c20] at H
              have WO:(t117 == 0)=true:=beq_iff_eq.mpr c20
              have acm:(t117 != 0)=false:=bne_eq_false_iff_eq.mpr c20
              clear c20
              by_cases c21:t123=true
              ·
               subst c21
               have H1:(aJ.l1 k3 l0 t112 oK t118 t119 t120 t121 t122)=some (r1,r2,r3,r4,r5,r6):=by rw [if_pos rfl] at H;exact H
               clear H
               have H:=H1
               clear H1
               have H':=ae.mk H
               clear H
               have zB:0≤((oK):Int):=of_decide_eq_true (by first|(with_reducible assumption)|assumption)
               have zy:(oK) < (l0.length:Int):=of_decide_eq_true (by first|(with_reducible assumption)|assumption)
               obtain ⟨WU,e115,oq⟩:=Kd.kC HR0.out (oK) zB zy
               cases e115
               replace oq:=(HB.out.cell (World.block_lt_of_cell? w _ oq)).trans oq
               replace zB:=eq_true zB
               replace zy:=eq_true zy
               try go_wp2_with (first|((with_reducible refine bu (f:=64) rfl ?_);refine dQ (some 49) rfl rfl Tryd.func64 (by kernel_rfl) rfl #[.string (dV ByteArray.empty l0 (oK))] rfl (by (try simp only [List.map_toArray,List.map_cons,List.map_nil]);first|done|(simp only [wI];rfl)|rfl|(simp only [List.length_drop,List.length_take];rfl)) ?_;(with_reducible refine (aH.calls k3 (dV ByteArray.empty l0 (oK)) t116 t117 _ Zj.out).mono ?_);rintro e w' ⟨rfl,⟨nd,rfl⟩⟩;refine ⟨_,rfl,?_⟩;(try (rw [qL wr];generalize Au:World.drewN wr _=wr;have dS:ae (wr.heap[iG]? = some (.cells #[.int .u8 gu,.int .u8 fZ,.int .u8 fM,.int .u8 fD,.int .i64 eP] 55 (0,0))):=⟨by rw [← Au];exact (by (with_reducible repeat (first|refine au ?_ _|refine ay ?_|refine ak ?_ _));exact fG.out)⟩;have dR:ae (wr.heap[eF]? = some (.cells #[.int .u8 dI,.int .u8 dH,.int .u8 dG,.int .u8 dF,.int .i64 dE] 55 (0,0))):=⟨by rw [← Au];exact (by (with_reducible repeat (first|refine au ?_ _|refine ay ?_|refine ak ?_ _));exact bV.out)⟩;have dO:ae (Below w.heap.size w wr):=⟨by rw [← Au];exact (by repeat (first|(with_reducible first|exact HB.out|apply ah|apply af|apply ai|refine aj ?_ jC.out|refine aj ?_ jw.out)|exact HB.out))⟩;clear fG bV HB Au;have fG:=dS;have bV:=dR;have HB:=dO;clear dS dR dO))))
               have dS:=ae.mk (ay fG.out)
               have dR:=ae.mk (ay bV.out)
               have dO:=ae.mk (ai HB.out)
               clear fG
               clear bV
               clear HB
               have fG:=dS
               have bV:=dR
               have HB:=dO
               clear dS dR dO
               have Ef:0≤(mQ:Int):=of_decide_eq_true (by first|(with_reducible assumption)|assumption)
               have Ec:mQ < (t112.size:Int):=of_decide_eq_true (by first|(with_reducible assumption)|assumption)
               have NQ:=kF t112 mQ
               replace Ef:=eq_true Ef
               replace Ec:=eq_true Ec
               refine qG (n:=12) (S:=fun w'=>w'.cell? ⟨eF,0,none⟩=some (.int .u8 dI)∧w'.cell? ⟨eF,1,none⟩=some (.int .u8 dH)∧w'.cell? ⟨eF,2,none⟩=some (.int .u8 dG)∧w'.cell? ⟨eF,3,none⟩=some (.int .u8 dF)∧w'.cell? ⟨eF,4,none⟩=some (.int .i64 dE)) (ds:=[]) #[false,false,false,false,false,false,false,false,false,false,false,false] (by kernel_rfl) rfl rfl ⟨(ax bV.out 0).trans rfl,(ax bV.out 1).trans rfl,(ax bV.out 2).trans rfl,(ax bV.out 3).trans rfl,(ax bV.out 4).trans rfl⟩ (fun hHeld=>?_);refine qx aJ.MR aJ.Gz (fun kZ AY=>?_)
               generalize wr.drew=Xp at fG bV HB hHeld ⊢
               refine gW (i:=1) (N:=some 54) (v:=?_) (a':=?_) #[false,true,false,false,false,false,false,false,false,false,false,false] rfl rfl (iF kZ.out (by kernel_rfl)) (fun _ _ _ h=>h) (Or.inl ⟨by rfl,?_⟩) ?_ ?_
               rotate_left
               ·
                intro w'
                go_simp
                with_reducible rfl
               rotate_left
               ·
                simp only [Act.put,List.setIfInBounds_toArray,List.set_cons_zero,List.set_cons_succ,bY,bZ]
                rfl
               refine gW (i:=2) (N:=some 55) (v:=?_) (a':=?_) #[false,true,true,false,false,false,false,false,false,false,false,false] rfl rfl (iF kZ.out (by kernel_rfl)) (fun _ _ _ h=>h) (Or.inl ⟨by rfl,?_⟩) ?_ ?_
               rotate_left
               ·
                intro w'
                go_simp
                with_reducible rfl
               rotate_left
               ·
                simp only [Act.put,List.setIfInBounds_toArray,List.set_cons_zero,List.set_cons_succ,bY,bZ]
                rfl
               refine gW (i:=4) (N:=some 57) (v:=?_) (a':=?_) #[false,true,true,false,true,false,false,false,false,false,false,false] rfl rfl (iF kZ.out (by kernel_rfl)) (fun _ _ _ h=>h) (Or.inl ⟨by rfl,?_⟩) ?_ ?_
               rotate_left
               ·
                intro w'
                go_simp
                with_reducible rfl
               rotate_left
               ·
                simp only [Act.put,List.setIfInBounds_toArray,List.set_cons_zero,List.set_cons_succ,bY,bZ]
                rfl
               refine kG (i:=0) (N:=some 53) (v:=?_) (a':=?_) #[true,true,true,false,true,false,false,false,false,false,false,false] rfl rfl (kE kZ.out AY.out (by kernel_rfl)) (fun _ _ _ h=>h) (Or.inl ⟨by rfl,?_⟩) hHeld ?_ ?_
               rotate_left
               ·
                rintro w' ⟨s0,s1,s2,s3,s4⟩
                go_simp
                with_reducible rfl
               rotate_left
               ·
                simp only [Act.put,List.setIfInBounds_toArray,List.set_cons_zero,List.set_cons_succ,bY,bZ]
                rfl
               refine kG (i:=3) (N:=some 56) (v:=?_) (a':=?_) #[true,true,true,true,true,false,false,false,false,false,false,false] rfl rfl (kE kZ.out AY.out (by kernel_rfl)) (fun _ _ _ h=>h) (Or.inl ⟨by rfl,?_⟩) hHeld ?_ ?_
               rotate_left
               ·
                rintro w' ⟨s0,s1,s2,s3,s4⟩
                go_simp
                with_reducible rfl
               rotate_left
               ·
                simp only [Act.put,List.setIfInBounds_toArray,List.set_cons_zero,List.set_cons_succ,bY,bZ]
                rfl
               refine NL (σ:=Nat) 2 #[true,true,true,true,true,true,true,true,true,true,false,false] (fun s_=>[(58,.tuple #[.agg #[.int .u8 t118,.int .u8 t119,.int .u8 t120,.int .u8 t121,.int .i64 t122],.bool true]),(11,.pointer (some ⟨s_,0,none⟩)),(52,.tuple #[.agg #[.int .u8 t118,.int .u8 t119,.int .u8 t120,.int .u8 t121,.int .i64 t122],.bool true]),(59,.agg #[.int .u8 t118,.int .u8 t119,.int .u8 t120,.int .u8 t121,.int .i64 t122]),(60,.bool true)]) (fun s_ w'=>(w'.cell? ⟨eF,0,none⟩=some (.int .u8 dI)∧w'.cell? ⟨eF,1,none⟩=some (.int .u8 dH)∧w'.cell? ⟨eF,2,none⟩=some (.int .u8 dG)∧w'.cell? ⟨eF,3,none⟩=some (.int .u8 dF)∧w'.cell? ⟨eF,4,none⟩=some (.int .i64 dE))∧(w'.heap[iG]? = some (.cells #[.int .u8 gu,.int .u8 fZ,.int .u8 fM,.int .u8 fD,.int .i64 eP] 55 (0,0)))∧(w'.heap[eF]? = some (.cells #[.int .u8 dI,.int .u8 dH,.int .u8 dG,.int .u8 dF,.int .i64 dE] 55 (0,0)))∧(w'.heap[s_]? = some (.cells #[.int .u8 0,.int .u8 0,.int .u8 0,.int .u8 0,.int .i64 0] 55 (0,0)))∧(w.heap.size≤s_)∧(w.heap.size≤s_)∧(iG ≠ s_)∧(s_ ≠ iG)∧(eF ≠ s_)∧(s_ ≠ eF)∧(Below w.heap.size w w')) ?_ ?_
               rotate_left
               ·
                intro xU
                refine Xv (i:=5) (j:=9) (Ni:=some 58) (Nj:=some 11) #[true,true,true,true,true,true,false,false,false,false,false,false] #[true,true,true,true,true,false,false,false,false,true,false,false] rfl rfl rfl rfl (FM kZ.out (by kernel_rfl)) (by decide) (by decide) (fun K hK=>?_) (fun K hK=>?_)
                ·
                 skip
                 refine pF Tryd.func65 (by kernel_rfl) rfl #[.agg #[.int .u8 dI,.int .u8 dH,.int .u8 dG,.int .u8 dF,.int .i64 dE],.int .u8 (bt t112 mQ),.int .i64 t116] (by rfl) rfl rfl (by (try simp only [List.map_toArray,List.map_cons,List.map_nil]);first|done|rfl|(simp only [List.length_drop,List.length_take];rfl)) ?_
                 with_reducible refine (aZ.calls k3 dI dH dG dF dE (bt t112 mQ) t116 t118 t119 t120 t121 t122 true _ PW.out).mono ?_
                 rintro e w23 ⟨rfl,hb⟩
                 refine ⟨_,rfl,?_⟩
                 have dS:=ae.mk (bf (g:=iG) (o:=.cells #[.int .u8 gu,.int .u8 fZ,.int .u8 fM,.int .u8 fD,.int .i64 eP] 55 (0,0)) (by (with_reducible repeat (first|refine au ?_ _|refine ay ?_|refine ak ?_ _));exact fG.out) hb)
                 have dR:=ae.mk (bf (g:=eF) (o:=.cells #[.int .u8 dI,.int .u8 dH,.int .u8 dG,.int .u8 dF,.int .i64 dE] 55 (0,0)) (by (with_reducible repeat (first|refine au ?_ _|refine ay ?_|refine ak ?_ _));exact bV.out) hb)
                 have dO:=ae.mk (bg (by repeat (first|(with_reducible first|exact HB.out|apply ah|apply af|apply ai|refine aj ?_ jC.out|refine aj ?_ jw.out)|exact HB.out)) hb)
                 clear fG
                 clear bV
                 clear HB
                 have fG:=dS
                 have bV:=dR
                 have HB:=dO
                 clear dS dR dO
                 (try clear hb)
                 (try clear hb2)
                 (try clear hk)
                 (try clear hi)
                 refine hK.out _ _ ⟨(ax bV.out 0).trans rfl,(ax bV.out 1).trans rfl,(ax bV.out 2).trans rfl,(ax bV.out 3).trans rfl,(ax bV.out 4).trans rfl⟩ (fun hHeld=>?_)
                 clear hK K
                 refine jo (a':=?_) ?_ ?_
                 rotate_left
                 ·
                  show Act.put _ (some 58) _=_
                  simp only [Act.put,List.setIfInBounds_toArray,List.set_cons_zero,List.set_cons_succ,bY,bZ]
                  rfl
                 refine gW (i:=6) (N:=some 52) (v:=?_) (a':=?_) #[true,true,true,true,true,true,true,false,false,false,false,false] rfl rfl (iF kZ.out (by kernel_rfl)) (fun _ _ _ h=>h) (Or.inl ⟨by rfl,?_⟩) ?_ ?_
                 rotate_left
                 ·
                  intro w'
                  go_simp
                  with_reducible rfl
                 rotate_left
                 ·
                  simp only [Act.put,List.setIfInBounds_toArray,List.set_cons_zero,List.set_cons_succ,bY,bZ]
                  rfl
                 refine gW (i:=7) (N:=some 59) (v:=?_) (a':=?_) #[true,true,true,true,true,true,true,true,false,false,false,false] rfl rfl (iF kZ.out (by kernel_rfl)) (fun _ _ _ h=>h) (Or.inl ⟨by rfl,?_⟩) ?_ ?_
                 rotate_left
                 ·
                  intro w'
                  go_simp
                  with_reducible rfl
                 rotate_left
                 ·
                  simp only [Act.put,List.setIfInBounds_toArray,List.set_cons_zero,List.set_cons_succ,bY,bZ]
                  rfl
                 refine gW (i:=8) (N:=some 60) (v:=?_) (a':=?_) #[true,true,true,true,true,true,true,true,true,false,false,false] rfl rfl (iF kZ.out (by kernel_rfl)) (fun _ _ _ h=>h) (Or.inl ⟨by rfl,?_⟩) ?_ ?_
                 rotate_left
                 ·
                  intro w'
                  go_simp
                  with_reducible rfl
                 rotate_left
                 ·
                  simp only [Act.put,List.setIfInBounds_toArray,List.set_cons_zero,List.set_cons_succ,bY,bZ]
                  rfl
                 refine pY (i:=9) (N:=some 11) #[true,true,true,true,true,true,true,true,true,true,false,false] rfl rfl (mW kZ.out (by kernel_rfl)) (by decide) (fun K hK=>?_)
                 refine rH ?hg (N:=11) ?hd (cs:=#[.int .u8 0,.int .u8 0,.int .u8 0,.int .u8 0,.int .i64 0]) (t:=55) ?hr ?_;(case hd=>rfl);(case hg=>rfl);(case hr=>first|(go_simp;done)|(go_simp;rfl))
                 intro dC hg Qo hbox hb
                 have dS:=ae.mk (bf (g:=iG) (o:=.cells #[.int .u8 gu,.int .u8 fZ,.int .u8 fM,.int .u8 fD,.int .i64 eP] 55 (0,0)) (by (with_reducible repeat (first|refine au ?_ _|refine ay ?_|refine ak ?_ _));exact fG.out) hb)
                 have dR:=ae.mk (bf (g:=eF) (o:=.cells #[.int .u8 dI,.int .u8 dH,.int .u8 dG,.int .u8 dF,.int .i64 dE] 55 (0,0)) (by (with_reducible repeat (first|refine au ?_ _|refine ay ?_|refine ak ?_ _));exact bV.out) hb)
                 have dO:=ae.mk (bg (by repeat (first|(with_reducible first|exact HB.out|apply ah|apply af|apply ai|refine aj ?_ jC.out|refine aj ?_ jw.out)|exact HB.out)) hb)
                 have gQ:=ae.mk (hbox)
                 have lM:=ae.mk ((by rw [hg];exact (bQ (by repeat (first|(with_reducible first|exact HB.out|apply ah|apply af|apply ai|refine aj ?_ jC.out|refine aj ?_ jw.out)|exact HB.out))):w.heap.size≤dC))
                 have mg:=lM
                 have nI:=ae.mk ((by rw [hg];exact Nat.ne_of_lt (jY (g:=iG) (o:=.cells #[.int .u8 gu,.int .u8 fZ,.int .u8 fM,.int .u8 fD,.int .i64 eP] 55 (0,0)) (by (with_reducible repeat (first|refine au ?_ _|refine ay ?_|refine ak ?_ _));exact fG.out)):iG ≠ dC))
                 have vG:=ae.mk nI.out.symm
                 have vF:=ae.mk ((by rw [hg];exact Nat.ne_of_lt (jY (g:=eF) (o:=.cells #[.int .u8 dI,.int .u8 dH,.int .u8 dG,.int .u8 dF,.int .i64 dE] 55 (0,0)) (by (with_reducible repeat (first|refine au ?_ _|refine ay ?_|refine ak ?_ _));exact bV.out)):eF ≠ dC))
                 have xQ:=ae.mk vF.out.symm
                 clear fG
                 clear bV
                 clear HB
                 have fG:=dS
                 have bV:=dR
                 have HB:=dO
                 have iK:=gQ
                 have qV:=lM
                 have lQ:=mg
                 have eu:=nI
                 have gB:=vG
                 have bD:=vF
                 have gV:=xQ
                 clear dS dR dO gQ lM mg nI vG vF xQ
                 clear hb hbox hg
                 refine hK.out _ _ ⟨(ax bV.out 0).trans rfl,(ax bV.out 1).trans rfl,(ax bV.out 2).trans rfl,(ax bV.out 3).trans rfl,(ax bV.out 4).trans rfl⟩ (fun hHeld=>?_)
                 clear hK K
                 refine jo (a':=?_) ?_ ?_
                 rotate_left
                 ·
                  show Act.put _ (some 11) _=_
                  simp only [Act.put,List.setIfInBounds_toArray,List.set_cons_zero,List.set_cons_succ,bY,bZ]
                  rfl
                 exact jo (by simp only [pX,Act.put,List.setIfInBounds_toArray,List.set_cons_zero,List.set_cons_succ]) (xU (dC) _ ⟨hHeld,(by (with_reducible repeat (first|refine au ?_ _|refine ay ?_|refine ak ?_ _));exact fG.out),(by (with_reducible repeat (first|refine au ?_ _|refine ay ?_|refine ak ?_ _));exact bV.out),(by (with_reducible repeat (first|refine au ?_ _|refine ay ?_|refine ak ?_ _));exact iK.out),qV.out,lQ.out,eu.out,gB.out,bD.out,gV.out,(by repeat (first|(with_reducible first|exact HB.out|apply ah|apply af|apply ai|refine aj ?_ jC.out|refine aj ?_ jw.out|refine aj ?_ lQ.out)|exact HB.out))⟩)
                ·
                 skip
                 refine rH ?hg (N:=11) ?hd (cs:=#[.int .u8 0,.int .u8 0,.int .u8 0,.int .u8 0,.int .i64 0]) (t:=55) ?hr ?_;(case hd=>rfl);(case hg=>rfl);(case hr=>first|(go_simp;done)|(go_simp;rfl))
                 intro dC hg w23 hbox hb
                 have dS:=ae.mk (bf (g:=iG) (o:=.cells #[.int .u8 gu,.int .u8 fZ,.int .u8 fM,.int .u8 fD,.int .i64 eP] 55 (0,0)) (by (with_reducible repeat (first|refine au ?_ _|refine ay ?_|refine ak ?_ _));exact fG.out) hb)
                 have dR:=ae.mk (bf (g:=eF) (o:=.cells #[.int .u8 dI,.int .u8 dH,.int .u8 dG,.int .u8 dF,.int .i64 dE] 55 (0,0)) (by (with_reducible repeat (first|refine au ?_ _|refine ay ?_|refine ak ?_ _));exact bV.out) hb)
                 have dO:=ae.mk (bg (by repeat (first|(with_reducible first|exact HB.out|apply ah|apply af|apply ai|refine aj ?_ jC.out|refine aj ?_ jw.out)|exact HB.out)) hb)
                 have gQ:=ae.mk (hbox)
                 have lM:=ae.mk ((by rw [hg];exact (bQ (by repeat (first|(with_reducible first|exact HB.out|apply ah|apply af|apply ai|refine aj ?_ jC.out|refine aj ?_ jw.out)|exact HB.out))):w.heap.size≤dC))
                 have mg:=lM
                 have nI:=ae.mk ((by rw [hg];exact Nat.ne_of_lt (jY (g:=iG) (o:=.cells #[.int .u8 gu,.int .u8 fZ,.int .u8 fM,.int .u8 fD,.int .i64 eP] 55 (0,0)) (by (with_reducible repeat (first|refine au ?_ _|refine ay ?_|refine ak ?_ _));exact fG.out)):iG ≠ dC))
                 have vG:=ae.mk nI.out.symm
                 have vF:=ae.mk ((by rw [hg];exact Nat.ne_of_lt (jY (g:=eF) (o:=.cells #[.int .u8 dI,.int .u8 dH,.int .u8 dG,.int .u8 dF,.int .i64 dE] 55 (0,0)) (by (with_reducible repeat (first|refine au ?_ _|refine ay ?_|refine ak ?_ _));exact bV.out)):eF ≠ dC))
                 have xQ:=ae.mk vF.out.symm
                 clear fG
                 clear bV
                 clear HB
                 have fG:=dS
                 have bV:=dR
                 have HB:=dO
                 have iK:=gQ
                 have qV:=lM
                 have lQ:=mg
                 have eu:=nI
                 have gB:=vG
                 have bD:=vF
                 have gV:=xQ
                 clear dS dR dO gQ lM mg nI vG vF xQ
                 clear hb hbox hg
                 refine hK.out _ _ ⟨(ax bV.out 0).trans rfl,(ax bV.out 1).trans rfl,(ax bV.out 2).trans rfl,(ax bV.out 3).trans rfl,(ax bV.out 4).trans rfl⟩ (fun hHeld=>?_)
                 clear hK K
                 refine jo (a':=?_) ?_ ?_
                 rotate_left
                 ·
                  show Act.put _ (some 11) _=_
                  simp only [Act.put,List.setIfInBounds_toArray,List.set_cons_zero,List.set_cons_succ,bY,bZ]
                  rfl
                 refine pY (i:=5) (N:=some 58) #[true,true,true,true,true,true,false,false,false,true,false,false] rfl rfl (mW kZ.out (by kernel_rfl)) (by decide) (fun K hK=>?_)
                 refine pF Tryd.func65 (by kernel_rfl) rfl #[.agg #[.int .u8 dI,.int .u8 dH,.int .u8 dG,.int .u8 dF,.int .i64 dE],.int .u8 (bt t112 mQ),.int .i64 t116] (by rfl) rfl rfl (by (try simp only [List.map_toArray,List.map_cons,List.map_nil]);first|done|rfl|(simp only [List.length_drop,List.length_take];rfl)) ?_
                 with_reducible refine (aZ.calls k3 dI dH dG dF dE (bt t112 mQ) t116 t118 t119 t120 t121 t122 true _ PW.out).mono ?_
                 rintro e Qo ⟨rfl,hb⟩
                 refine ⟨_,rfl,?_⟩
                 have dS:=ae.mk (bf (g:=iG) (o:=.cells #[.int .u8 gu,.int .u8 fZ,.int .u8 fM,.int .u8 fD,.int .i64 eP] 55 (0,0)) (by (with_reducible repeat (first|refine au ?_ _|refine ay ?_|refine ak ?_ _));exact fG.out) hb)
                 have dR:=ae.mk (bf (g:=eF) (o:=.cells #[.int .u8 dI,.int .u8 dH,.int .u8 dG,.int .u8 dF,.int .i64 dE] 55 (0,0)) (by (with_reducible repeat (first|refine au ?_ _|refine ay ?_|refine ak ?_ _));exact bV.out) hb)
                 have dO:=ae.mk (bf (g:=dC) (o:=.cells #[.int .u8 0,.int .u8 0,.int .u8 0,.int .u8 0,.int .i64 0] 55 (0,0)) (by (with_reducible repeat (first|refine au ?_ _|refine ay ?_|refine ak ?_ _));exact iK.out) hb)
                 have gQ:=ae.mk (bg (by repeat (first|(with_reducible first|exact HB.out|apply ah|apply af|apply ai|refine aj ?_ jC.out|refine aj ?_ jw.out|refine aj ?_ lQ.out)|exact HB.out)) hb)
                 clear fG
                 clear bV
                 clear iK
                 clear HB
                 have fG:=dS
                 have bV:=dR
                 have iK:=dO
                 have HB:=gQ
                 clear dS dR dO gQ
                 (try clear hb)
                 (try clear hb2)
                 (try clear hk)
                 (try clear hi)
                 refine hK.out _ _ ⟨(ax bV.out 0).trans rfl,(ax bV.out 1).trans rfl,(ax bV.out 2).trans rfl,(ax bV.out 3).trans rfl,(ax bV.out 4).trans rfl⟩ (fun hHeld=>?_)
                 clear hK K
                 refine jo (a':=?_) ?_ ?_
                 rotate_left
                 ·
                  show Act.put _ (some 58) _=_
                  simp only [Act.put,List.setIfInBounds_toArray,List.set_cons_zero,List.set_cons_succ,bY,bZ]
                  rfl
                 refine gW (i:=6) (N:=some 52) (v:=?_) (a':=?_) #[true,true,true,true,true,true,true,false,false,true,false,false] rfl rfl (iF kZ.out (by kernel_rfl)) (fun _ _ _ h=>h) (Or.inl ⟨by rfl,?_⟩) ?_ ?_
                 rotate_left
                 ·
                  intro w'
                  go_simp
                  with_reducible rfl
                 rotate_left
                 ·
                  simp only [Act.put,List.setIfInBounds_toArray,List.set_cons_zero,List.set_cons_succ,bY,bZ]
                  rfl
                 refine gW (i:=7) (N:=some 59) (v:=?_) (a':=?_) #[true,true,true,true,true,true,true,true,false,true,false,false] rfl rfl (iF kZ.out (by kernel_rfl)) (fun _ _ _ h=>h) (Or.inl ⟨by rfl,?_⟩) ?_ ?_
                 rotate_left
                 ·
                  intro w'
                  go_simp
                  with_reducible rfl
                 rotate_left
                 ·
                  simp only [Act.put,List.setIfInBounds_toArray,List.set_cons_zero,List.set_cons_succ,bY,bZ]
                  rfl
                 refine gW (i:=8) (N:=some 60) (v:=?_) (a':=?_) #[true,true,true,true,true,true,true,true,true,true,false,false] rfl rfl (iF kZ.out (by kernel_rfl)) (fun _ _ _ h=>h) (Or.inl ⟨by rfl,?_⟩) ?_ ?_
                 rotate_left
                 ·
                  intro w'
                  go_simp
                  with_reducible rfl
                 rotate_left
                 ·
                  simp only [Act.put,List.setIfInBounds_toArray,List.set_cons_zero,List.set_cons_succ,bY,bZ]
                  rfl
                 exact jo (by simp only [pX,Act.put,List.setIfInBounds_toArray,List.set_cons_zero,List.set_cons_succ]) (xU (dC) _ ⟨hHeld,(by (with_reducible repeat (first|refine au ?_ _|refine ay ?_|refine ak ?_ _));exact fG.out),(by (with_reducible repeat (first|refine au ?_ _|refine ay ?_|refine ak ?_ _));exact bV.out),(by (with_reducible repeat (first|refine au ?_ _|refine ay ?_|refine ak ?_ _));exact iK.out),qV.out,lQ.out,eu.out,gB.out,bD.out,gV.out,(by repeat (first|(with_reducible first|exact HB.out|apply ah|apply af|apply ai|refine aj ?_ jC.out|refine aj ?_ jw.out|refine aj ?_ lQ.out)|exact HB.out))⟩)
               rintro dC qy ⟨hS_,WJ,OV,WI,WH,WG,WE,WC,WB,WA,Wy⟩
               have dS:ae (qy.heap[iG]? = some (.cells #[.int .u8 gu,.int .u8 fZ,.int .u8 fM,.int .u8 fD,.int .i64 eP] 55 (0,0))):=⟨WJ⟩
               have dR:ae (qy.heap[eF]? = some (.cells #[.int .u8 dI,.int .u8 dH,.int .u8 dG,.int .u8 dF,.int .i64 dE] 55 (0,0))):=⟨OV⟩
               have dO:ae (qy.heap[dC]? = some (.cells #[.int .u8 0,.int .u8 0,.int .u8 0,.int .u8 0,.int .i64 0] 55 (0,0))):=⟨WI⟩
               have gQ:ae (w.heap.size≤dC):=⟨WH⟩
               have lM:ae (w.heap.size≤dC):=⟨WG⟩
               have mg:ae (iG ≠ dC):=⟨WE⟩
               have nI:ae (dC ≠ iG):=⟨WC⟩
               have vG:ae (eF ≠ dC):=⟨WB⟩
               have vF:ae (dC ≠ eF):=⟨WA⟩
               have xQ:ae (Below w.heap.size w qy):=⟨Wy⟩
               clear fG
               clear bV
               clear HB
               clear WJ OV WI WH WG WE WC WB WA Wy
               have fG:=dS
               have bV:=dR
               have iK:=dO
               have qV:=gQ
               have lQ:=lM
               have eu:=mg
               have gB:=nI
               have bD:=vG
               have gV:=vF
               have HB:=xQ
               clear dS dR dO gQ lM mg nI vG vF xQ
               have hHeld:qy.cell? ⟨eF,0,none⟩=some (.int .u8 dI)∧qy.cell? ⟨eF,1,none⟩=some (.int .u8 dH)∧qy.cell? ⟨eF,2,none⟩=some (.int .u8 dG)∧qy.cell? ⟨eF,3,none⟩=some (.int .u8 dF)∧qy.cell? ⟨eF,4,none⟩=some (.int .i64 dE):=hS_
               refine jo (a':=?_) ?_ ?_
               rotate_left
               ·
                simp only [pX,Act.put,List.setIfInBounds_toArray,List.set_cons_zero,List.set_cons_succ]
                rfl
               refine pY (i:=10) (N:=none) #[true,true,true,true,true,true,true,true,true,true,true,false] rfl rfl (mW kZ.out (by kernel_rfl)) (by decide) (fun K hK=>?_)
               have an0:qy.cell? ⟨dC,0,none⟩=some (.int .u8 0):=(ax iK.out 0).trans rfl
               have amc:=aC iK.out 0
               have aef:=eu.out
               have aee:=bD.out
               have aeJ:=gB.out
               have aeI:=gV.out
               have anZ:qy.cell? ⟨dC,1,none⟩=some (.int .u8 0):=(ax iK.out 1).trans rfl
               have amb:=aC iK.out 1
               have aed:=eu.out
               have aec:=bD.out
               have aeH:=gB.out
               have aeG:=gV.out
               have anY:qy.cell? ⟨dC,2,none⟩=some (.int .u8 0):=(ax iK.out 2).trans rfl
               have ama:=aC iK.out 2
               have aeb:=eu.out
               have aea:=bD.out
               have aeF:=gB.out
               have aeE:=gV.out
               have anX:qy.cell? ⟨dC,3,none⟩=some (.int .u8 0):=(ax iK.out 3).trans rfl
               have al9:=aC iK.out 3
               have ad9:=eu.out
               have ad8:=bD.out
               have aeD:=gB.out
               have aeC:=gV.out
               have anW:qy.cell? ⟨dC,4,none⟩=some (.int .i64 0):=(ax iK.out 4).trans rfl
               have al8:=aC iK.out 4
               have ad7:=eu.out
               have ad6:=bD.out
               have aeB:=gB.out
               have aeA:=gV.out
               refine Bf (w1:=?_) (by rfl) rfl ?_ ?_
               rotate_left
               ·
                go_simp
                rfl
               refine hK.out _ _ ⟨((cell_far (p:=⟨dC,_,none⟩) bD.out _).trans (((cell_far (p:=⟨dC,_,none⟩) bD.out _).trans (((cell_far (p:=⟨dC,_,none⟩) bD.out _).trans (((cell_far (p:=⟨dC,_,none⟩) bD.out _).trans (((cell_far (p:=⟨dC,_,none⟩) bD.out _).trans (hHeld.1)))))))))),((cell_far (p:=⟨dC,_,none⟩) bD.out _).trans (((cell_far (p:=⟨dC,_,none⟩) bD.out _).trans (((cell_far (p:=⟨dC,_,none⟩) bD.out _).trans (((cell_far (p:=⟨dC,_,none⟩) bD.out _).trans (((cell_far (p:=⟨dC,_,none⟩) bD.out _).trans (hHeld.2.1)))))))))),((cell_far (p:=⟨dC,_,none⟩) bD.out _).trans (((cell_far (p:=⟨dC,_,none⟩) bD.out _).trans (((cell_far (p:=⟨dC,_,none⟩) bD.out _).trans (((cell_far (p:=⟨dC,_,none⟩) bD.out _).trans (((cell_far (p:=⟨dC,_,none⟩) bD.out _).trans (hHeld.2.2.1)))))))))),((cell_far (p:=⟨dC,_,none⟩) bD.out _).trans (((cell_far (p:=⟨dC,_,none⟩) bD.out _).trans (((cell_far (p:=⟨dC,_,none⟩) bD.out _).trans (((cell_far (p:=⟨dC,_,none⟩) bD.out _).trans (((cell_far (p:=⟨dC,_,none⟩) bD.out _).trans (hHeld.2.2.2.1)))))))))),((cell_far (p:=⟨dC,_,none⟩) bD.out _).trans (((cell_far (p:=⟨dC,_,none⟩) bD.out _).trans (((cell_far (p:=⟨dC,_,none⟩) bD.out _).trans (((cell_far (p:=⟨dC,_,none⟩) bD.out _).trans (((cell_far (p:=⟨dC,_,none⟩) bD.out _).trans (hHeld.2.2.2.2))))))))))⟩ (fun hHeld=>?_)
               clear hK K
               refine gW (i:=11) (N:=some 12) (v:=?_) (a':=?_) #[true,true,true,true,true,true,true,true,true,true,true,true] rfl rfl (iF kZ.out (by kernel_rfl)) (fun _ _ _ h=>h) (Or.inl ⟨by rfl,?_⟩) ?_ ?_
               rotate_left
               ·
                intro w'
                go_simp
                with_reducible rfl
               rotate_left
               ·
                simp only [Act.put,List.setIfInBounds_toArray,List.set_cons_zero,List.set_cons_succ,bY,bZ]
                rfl
               refine ug (uV kZ.out (by kernel_rfl)) ?_
               have alO:=gB.out
               have alk:=eu.out
               have alN:=gV.out
               have alj:=bD.out
               obtain ⟨aiF,aiE,aiD,aiC,aiB,agr,agq,agp,agn,agm⟩:=jO iK.out
               have Wh:=rJ.out
               have V9:=jR.out
               obtain ⟨JA,Jz,Jy,Jw,UM,IV,IU,IQ,IP,SE⟩:=jO bV.out
               try go_wp2
               go_roundg k3
               case measure=>have:=tq.out;have:=GV.out;have:=Am.out;omega
               case rel=>exact ⟨(oK),(gu),(fZ),(fM),(fD),(eP),(t118),(t119),(t120),(t121),(t122),(by first|rfl|(simp;done)|(simp only [← wI] <;> (first|rfl|simp))|(simp [*];done)),H',⟨by have:=tq.out;have:=GV.out;have:=Am.out;omega⟩,⟨by (with_reducible repeat (first|refine au ?_ _|refine ay ?_|refine ak ?_ _));refine fO ?_ jR.out _;(with_reducible repeat (first|refine au ?_ _|refine ay ?_|refine ak ?_ _));refine fO ?_ jR.out _;(with_reducible repeat (first|refine au ?_ _|refine ay ?_|refine ak ?_ _));refine fO ?_ jR.out _;(with_reducible repeat (first|refine au ?_ _|refine ay ?_|refine ak ?_ _));refine fO ?_ jR.out _;(with_reducible repeat (first|refine au ?_ _|refine ay ?_|refine ak ?_ _));refine fO ?_ jR.out _;(with_reducible repeat (first|refine au ?_ _|refine ay ?_|refine ak ?_ _));refine fO ?_ eu.out _;(with_reducible repeat (first|refine au ?_ _|refine ay ?_|refine ak ?_ _));refine fO ?_ eu.out _;(with_reducible repeat (first|refine au ?_ _|refine ay ?_|refine ak ?_ _));refine fO ?_ eu.out _;(with_reducible repeat (first|refine au ?_ _|refine ay ?_|refine ak ?_ _));refine fO ?_ eu.out _;(with_reducible repeat (first|refine au ?_ _|refine ay ?_|refine ak ?_ _));refine fO ?_ eu.out _;(with_reducible repeat (first|refine au ?_ _|refine ay ?_|refine ak ?_ _));exact fG.out⟩,⟨by (with_reducible repeat (first|refine au ?_ _|refine ay ?_|refine ak ?_ _));refine dL (cs:=#[.int .u8 t118,.int .u8 t119,.int .u8 t120,.int .u8 t121,.int .i64 dE]) ?_ 4 _ rfl;(with_reducible repeat (first|refine au ?_ _|refine ay ?_|refine ak ?_ _));refine dL (cs:=#[.int .u8 t118,.int .u8 t119,.int .u8 t120,.int .u8 dF,.int .i64 dE]) ?_ 3 _ rfl;(with_reducible repeat (first|refine au ?_ _|refine ay ?_|refine ak ?_ _));refine dL (cs:=#[.int .u8 t118,.int .u8 t119,.int .u8 dG,.int .u8 dF,.int .i64 dE]) ?_ 2 _ rfl;(with_reducible repeat (first|refine au ?_ _|refine ay ?_|refine ak ?_ _));refine dL (cs:=#[.int .u8 t118,.int .u8 dH,.int .u8 dG,.int .u8 dF,.int .i64 dE]) ?_ 1 _ rfl;(with_reducible repeat (first|refine au ?_ _|refine ay ?_|refine ak ?_ _));refine dL (cs:=#[.int .u8 dI,.int .u8 dH,.int .u8 dG,.int .u8 dF,.int .i64 dE]) ?_ 0 _ rfl;(with_reducible repeat (first|refine au ?_ _|refine ay ?_|refine ak ?_ _));refine fO ?_ bD.out _;(with_reducible repeat (first|refine au ?_ _|refine ay ?_|refine ak ?_ _));refine fO ?_ bD.out _;(with_reducible repeat (first|refine au ?_ _|refine ay ?_|refine ak ?_ _));refine fO ?_ bD.out _;(with_reducible repeat (first|refine au ?_ _|refine ay ?_|refine ak ?_ _));refine fO ?_ bD.out _;(with_reducible repeat (first|refine au ?_ _|refine ay ?_|refine ak ?_ _));refine fO ?_ bD.out _;(with_reducible repeat (first|refine au ?_ _|refine ay ?_|refine ak ?_ _));exact bV.out⟩,⟨by repeat (first|(with_reducible first|exact HB.out|apply ah|apply af|apply ai|refine aj ?_ jC.out|refine aj ?_ jw.out|refine aj ?_ lQ.out)|exact HB.out)⟩⟩
              ·
               replace c21:=Bool.eq_false_iff.mpr c21
               subst c21
               have H1:(some (0,0,0,0,0,false))=some (r1,r2,r3,r4,r5,r6):=by rw [if_neg (show ¬ (false=true) by decide)] at H;exact H
               clear H
               have H:=H1
               clear H1
               simp only [Option.some.injEq,Prod.mk.injEq] at H
               obtain ⟨rfl,rfl,rfl,rfl,rfl,rfl⟩:=H
               have zB:0≤((oK):Int):=of_decide_eq_true (by first|(with_reducible assumption)|assumption)
               have zy:(oK) < (l0.length:Int):=of_decide_eq_true (by first|(with_reducible assumption)|assumption)
               obtain ⟨WU,e115,oq⟩:=Kd.kC HR0.out (oK) zB zy
               cases e115
               replace oq:=(HB.out.cell (World.block_lt_of_cell? w _ oq)).trans oq
               replace zB:=eq_true zB
               replace zy:=eq_true zy
               try go_wp2_with (first|((with_reducible refine bu (f:=64) rfl ?_);refine dQ (some 49) rfl rfl Tryd.func64 (by kernel_rfl) rfl #[.string (dV ByteArray.empty l0 (oK))] rfl (by (try simp only [List.map_toArray,List.map_cons,List.map_nil]);first|done|(simp only [wI];rfl)|rfl|(simp only [List.length_drop,List.length_take];rfl)) ?_;(with_reducible refine (aH.calls k3 (dV ByteArray.empty l0 (oK)) t116 t117 _ Zj.out).mono ?_);rintro e w' ⟨rfl,⟨nd,rfl⟩⟩;refine ⟨_,rfl,?_⟩;(try (rw [qL wr];generalize Au:World.drewN wr _=wr;have dS:ae (wr.heap[iG]? = some (.cells #[.int .u8 gu,.int .u8 fZ,.int .u8 fM,.int .u8 fD,.int .i64 eP] 55 (0,0))):=⟨by rw [← Au];exact (by (with_reducible repeat (first|refine au ?_ _|refine ay ?_|refine ak ?_ _));exact fG.out)⟩;have dR:ae (wr.heap[eF]? = some (.cells #[.int .u8 dI,.int .u8 dH,.int .u8 dG,.int .u8 dF,.int .i64 dE] 55 (0,0))):=⟨by rw [← Au];exact (by (with_reducible repeat (first|refine au ?_ _|refine ay ?_|refine ak ?_ _));exact bV.out)⟩;have dO:ae (Below w.heap.size w wr):=⟨by rw [← Au];exact (by repeat (first|(with_reducible first|exact HB.out|apply ah|apply af|apply ai|refine aj ?_ jC.out|refine aj ?_ jw.out)|exact HB.out))⟩;clear fG bV HB Au;have fG:=dS;have bV:=dR;have HB:=dO;clear dS dR dO))))
               have dS:=ae.mk (ay fG.out)
               have dR:=ae.mk (ay bV.out)
               have dO:=ae.mk (ai HB.out)
               clear fG
               clear bV
               clear HB
               have fG:=dS
               have bV:=dR
               have HB:=dO
               clear dS dR dO
               have Ef:0≤(mQ:Int):=of_decide_eq_true (by first|(with_reducible assumption)|assumption)
               have Ec:mQ < (t112.size:Int):=of_decide_eq_true (by first|(with_reducible assumption)|assumption)
               have NQ:=kF t112 mQ
               replace Ef:=eq_true Ef
               replace Ec:=eq_true Ec
               refine qG (n:=12) (S:=fun w'=>w'.cell? ⟨eF,0,none⟩=some (.int .u8 dI)∧w'.cell? ⟨eF,1,none⟩=some (.int .u8 dH)∧w'.cell? ⟨eF,2,none⟩=some (.int .u8 dG)∧w'.cell? ⟨eF,3,none⟩=some (.int .u8 dF)∧w'.cell? ⟨eF,4,none⟩=some (.int .i64 dE)) (ds:=[]) #[false,false,false,false,false,false,false,false,false,false,false,false] (by kernel_rfl) rfl rfl ⟨(ax bV.out 0).trans rfl,(ax bV.out 1).trans rfl,(ax bV.out 2).trans rfl,(ax bV.out 3).trans rfl,(ax bV.out 4).trans rfl⟩ (fun hHeld=>?_);refine qx aJ.MR aJ.Gz (fun kZ AY=>?_)
               generalize wr.drew=w36 at fG bV HB hHeld ⊢
               refine gW (i:=1) (N:=some 54) (v:=?_) (a':=?_) #[false,true,false,false,false,false,false,false,false,false,false,false] rfl rfl (iF kZ.out (by kernel_rfl)) (fun _ _ _ h=>h) (Or.inl ⟨by rfl,?_⟩) ?_ ?_
               rotate_left
               ·
                intro w'
                go_simp
                with_reducible rfl
               rotate_left
               ·
                simp only [Act.put,List.setIfInBounds_toArray,List.set_cons_zero,List.set_cons_succ,bY,bZ]
                rfl
               refine gW (i:=2) (N:=some 55) (v:=?_) (a':=?_) #[false,true,true,false,false,false,false,false,false,false,false,false] rfl rfl (iF kZ.out (by kernel_rfl)) (fun _ _ _ h=>h) (Or.inl ⟨by rfl,?_⟩) ?_ ?_
               rotate_left
               ·
                intro w'
                go_simp
                with_reducible rfl
               rotate_left
               ·
                simp only [Act.put,List.setIfInBounds_toArray,List.set_cons_zero,List.set_cons_succ,bY,bZ]
                rfl
               refine gW (i:=4) (N:=some 57) (v:=?_) (a':=?_) #[false,true,true,false,true,false,false,false,false,false,false,false] rfl rfl (iF kZ.out (by kernel_rfl)) (fun _ _ _ h=>h) (Or.inl ⟨by rfl,?_⟩) ?_ ?_
               rotate_left
               ·
                intro w'
                go_simp
                with_reducible rfl
               rotate_left
               ·
                simp only [Act.put,List.setIfInBounds_toArray,List.set_cons_zero,List.set_cons_succ,bY,bZ]
                rfl
               refine kG (i:=0) (N:=some 53) (v:=?_) (a':=?_) #[true,true,true,false,true,false,false,false,false,false,false,false] rfl rfl (kE kZ.out AY.out (by kernel_rfl)) (fun _ _ _ h=>h) (Or.inl ⟨by rfl,?_⟩) hHeld ?_ ?_
               rotate_left
               ·
                rintro w' ⟨s0,s1,s2,s3,s4⟩
                go_simp
                with_reducible rfl
               rotate_left
               ·
                simp only [Act.put,List.setIfInBounds_toArray,List.set_cons_zero,List.set_cons_succ,bY,bZ]
                rfl
               refine kG (i:=3) (N:=some 56) (v:=?_) (a':=?_) #[true,true,true,true,true,false,false,false,false,false,false,false] rfl rfl (kE kZ.out AY.out (by kernel_rfl)) (fun _ _ _ h=>h) (Or.inl ⟨by rfl,?_⟩) hHeld ?_ ?_
               rotate_left
               ·
                rintro w' ⟨s0,s1,s2,s3,s4⟩
                go_simp
                with_reducible rfl
               rotate_left
               ·
                simp only [Act.put,List.setIfInBounds_toArray,List.set_cons_zero,List.set_cons_succ,bY,bZ]
                rfl
               refine NL (σ:=Nat) 2 #[true,true,true,true,true,true,true,true,true,true,false,false] (fun s_=>[(58,.tuple #[.agg #[.int .u8 t118,.int .u8 t119,.int .u8 t120,.int .u8 t121,.int .i64 t122],.bool false]),(11,.pointer (some ⟨s_,0,none⟩)),(52,.tuple #[.agg #[.int .u8 t118,.int .u8 t119,.int .u8 t120,.int .u8 t121,.int .i64 t122],.bool false]),(59,.agg #[.int .u8 t118,.int .u8 t119,.int .u8 t120,.int .u8 t121,.int .i64 t122]),(60,.bool false)]) (fun s_ w'=>(w'.cell? ⟨eF,0,none⟩=some (.int .u8 dI)∧w'.cell? ⟨eF,1,none⟩=some (.int .u8 dH)∧w'.cell? ⟨eF,2,none⟩=some (.int .u8 dG)∧w'.cell? ⟨eF,3,none⟩=some (.int .u8 dF)∧w'.cell? ⟨eF,4,none⟩=some (.int .i64 dE))∧(w'.heap[iG]? = some (.cells #[.int .u8 gu,.int .u8 fZ,.int .u8 fM,.int .u8 fD,.int .i64 eP] 55 (0,0)))∧(w'.heap[eF]? = some (.cells #[.int .u8 dI,.int .u8 dH,.int .u8 dG,.int .u8 dF,.int .i64 dE] 55 (0,0)))∧(w'.heap[s_]? = some (.cells #[.int .u8 0,.int .u8 0,.int .u8 0,.int .u8 0,.int .i64 0] 55 (0,0)))∧(w.heap.size≤s_)∧(w.heap.size≤s_)∧(iG ≠ s_)∧(s_ ≠ iG)∧(eF ≠ s_)∧(s_ ≠ eF)∧(Below w.heap.size w w')) ?_ ?_
               rotate_left
               ·
                intro xU
                refine Xv (i:=5) (j:=9) (Ni:=some 58) (Nj:=some 11) #[true,true,true,true,true,true,false,false,false,false,false,false] #[true,true,true,true,true,false,false,false,false,true,false,false] rfl rfl rfl rfl (FM kZ.out (by kernel_rfl)) (by decide) (by decide) (fun K hK=>?_) (fun K hK=>?_)
                ·
                 skip
                 refine pF Tryd.func65 (by kernel_rfl) rfl #[.agg #[.int .u8 dI,.int .u8 dH,.int .u8 dG,.int .u8 dF,.int .i64 dE],.int .u8 (bt t112 mQ),.int .i64 t116] (by rfl) rfl rfl (by (try simp only [List.map_toArray,List.map_cons,List.map_nil]);first|done|rfl|(simp only [List.length_drop,List.length_take];rfl)) ?_
                 with_reducible refine (aZ.calls k3 dI dH dG dF dE (bt t112 mQ) t116 t118 t119 t120 t121 t122 false _ PW.out).mono ?_
                 rintro e w37 ⟨rfl,hb⟩
                 refine ⟨_,rfl,?_⟩
                 have dS:=ae.mk (bf (g:=iG) (o:=.cells #[.int .u8 gu,.int .u8 fZ,.int .u8 fM,.int .u8 fD,.int .i64 eP] 55 (0,0)) (by (with_reducible repeat (first|refine au ?_ _|refine ay ?_|refine ak ?_ _));exact fG.out) hb)
                 have dR:=ae.mk (bf (g:=eF) (o:=.cells #[.int .u8 dI,.int .u8 dH,.int .u8 dG,.int .u8 dF,.int .i64 dE] 55 (0,0)) (by (with_reducible repeat (first|refine au ?_ _|refine ay ?_|refine ak ?_ _));exact bV.out) hb)
                 have dO:=ae.mk (bg (by repeat (first|(with_reducible first|exact HB.out|apply ah|apply af|apply ai|refine aj ?_ jC.out|refine aj ?_ jw.out)|exact HB.out)) hb)
                 clear fG
                 clear bV
                 clear HB
                 have fG:=dS
                 have bV:=dR
                 have HB:=dO
                 clear dS dR dO
                 (try clear hb)
                 (try clear hb2)
                 (try clear hk)
                 (try clear hi)
                 refine hK.out _ _ ⟨(ax bV.out 0).trans rfl,(ax bV.out 1).trans rfl,(ax bV.out 2).trans rfl,(ax bV.out 3).trans rfl,(ax bV.out 4).trans rfl⟩ (fun hHeld=>?_)
                 clear hK K
                 refine jo (a':=?_) ?_ ?_
                 rotate_left
                 ·
                  show Act.put _ (some 58) _=_
                  simp only [Act.put,List.setIfInBounds_toArray,List.set_cons_zero,List.set_cons_succ,bY,bZ]
                  rfl
                 refine gW (i:=6) (N:=some 52) (v:=?_) (a':=?_) #[true,true,true,true,true,true,true,false,false,false,false,false] rfl rfl (iF kZ.out (by kernel_rfl)) (fun _ _ _ h=>h) (Or.inl ⟨by rfl,?_⟩) ?_ ?_
                 rotate_left
                 ·
                  intro w'
                  go_simp
                  with_reducible rfl
                 rotate_left
                 ·
                  simp only [Act.put,List.setIfInBounds_toArray,List.set_cons_zero,List.set_cons_succ,bY,bZ]
                  rfl
                 refine gW (i:=7) (N:=some 59) (v:=?_) (a':=?_) #[true,true,true,true,true,true,true,true,false,false,false,false] rfl rfl (iF kZ.out (by kernel_rfl)) (fun _ _ _ h=>h) (Or.inl ⟨by rfl,?_⟩) ?_ ?_
                 rotate_left
                 ·
                  intro w'
                  go_simp
                  with_reducible rfl
                 rotate_left
                 ·
                  simp only [Act.put,List.setIfInBounds_toArray,List.set_cons_zero,List.set_cons_succ,bY,bZ]
                  rfl
                 refine gW (i:=8) (N:=some 60) (v:=?_) (a':=?_) #[true,true,true,true,true,true,true,true,true,false,false,false] rfl rfl (iF kZ.out (by kernel_rfl)) (fun _ _ _ h=>h) (Or.inl ⟨by rfl,?_⟩) ?_ ?_
                 rotate_left
                 ·
                  intro w'
                  go_simp
                  with_reducible rfl
                 rotate_left
                 ·
                  simp only [Act.put,List.setIfInBounds_toArray,List.set_cons_zero,List.set_cons_succ,bY,bZ]
                  rfl
                 refine pY (i:=9) (N:=some 11) #[true,true,true,true,true,true,true,true,true,true,false,false] rfl rfl (mW kZ.out (by kernel_rfl)) (by decide) (fun K hK=>?_)
                 refine rH ?hg (N:=11) ?hd (cs:=#[.int .u8 0,.int .u8 0,.int .u8 0,.int .u8 0,.int .i64 0]) (t:=55) ?hr ?_;(case hd=>rfl);(case hg=>rfl);(case hr=>first|(go_simp;done)|(go_simp;rfl))
                 intro dC hg w38 hbox hb
                 have dS:=ae.mk (bf (g:=iG) (o:=.cells #[.int .u8 gu,.int .u8 fZ,.int .u8 fM,.int .u8 fD,.int .i64 eP] 55 (0,0)) (by (with_reducible repeat (first|refine au ?_ _|refine ay ?_|refine ak ?_ _));exact fG.out) hb)
                 have dR:=ae.mk (bf (g:=eF) (o:=.cells #[.int .u8 dI,.int .u8 dH,.int .u8 dG,.int .u8 dF,.int .i64 dE] 55 (0,0)) (by (with_reducible repeat (first|refine au ?_ _|refine ay ?_|refine ak ?_ _));exact bV.out) hb)
                 have dO:=ae.mk (bg (by repeat (first|(with_reducible first|exact HB.out|apply ah|apply af|apply ai|refine aj ?_ jC.out|refine aj ?_ jw.out)|exact HB.out)) hb)
                 have gQ:=ae.mk (hbox)
                 have lM:=ae.mk ((by rw [hg];exact (bQ (by repeat (first|(with_reducible first|exact HB.out|apply ah|apply af|apply ai|refine aj ?_ jC.out|refine aj ?_ jw.out)|exact HB.out))):w.heap.size≤dC))
                 have mg:=lM
                 have nI:=ae.mk ((by rw [hg];exact Nat.ne_of_lt (jY (g:=iG) (o:=.cells #[.int .u8 gu,.int .u8 fZ,.int .u8 fM,.int .u8 fD,.int .i64 eP] 55 (0,0)) (by (with_reducible repeat (first|refine au ?_ _|refine ay ?_|refine ak ?_ _));exact fG.out)):iG ≠ dC))
                 have vG:=ae.mk nI.out.symm
                 have vF:=ae.mk ((by rw [hg];exact Nat.ne_of_lt (jY (g:=eF) (o:=.cells #[.int .u8 dI,.int .u8 dH,.int .u8 dG,.int .u8 dF,.int .i64 dE] 55 (0,0)) (by (with_reducible repeat (first|refine au ?_ _|refine ay ?_|refine ak ?_ _));exact bV.out)):eF ≠ dC))
                 have xQ:=ae.mk vF.out.symm
                 clear fG
                 clear bV
                 clear HB
                 have fG:=dS
                 have bV:=dR
                 have HB:=dO
                 have iK:=gQ
                 have qV:=lM
                 have lQ:=mg
                 have eu:=nI
                 have gB:=vG
                 have bD:=vF
                 have gV:=xQ
                 clear dS dR dO gQ lM mg nI vG vF xQ
                 clear hb hbox hg
                 refine hK.out _ _ ⟨(ax bV.out 0).trans rfl,(ax bV.out 1).trans rfl,(ax bV.out 2).trans rfl,(ax bV.out 3).trans rfl,(ax bV.out 4).trans rfl⟩ (fun hHeld=>?_)
                 clear hK K
                 refine jo (a':=?_) ?_ ?_
                 rotate_left
                 ·
                  show Act.put _ (some 11) _=_
                  simp only [Act.put,List.setIfInBounds_toArray,List.set_cons_zero,List.set_cons_succ,bY,bZ]
                  rfl
                 exact jo (by simp only [pX,Act.put,List.setIfInBounds_toArray,List.set_cons_zero,List.set_cons_succ]) (xU (dC) _ ⟨hHeld,(by (with_reducible repeat (first|refine au ?_ _|refine ay ?_|refine ak ?_ _));exact fG.out),(by (with_reducible repeat (first|refine au ?_ _|refine ay ?_|refine ak ?_ _));exact bV.out),(by (with_reducible repeat (first|refine au ?_ _|refine ay ?_|refine ak ?_ _));exact iK.out),qV.out,lQ.out,eu.out,gB.out,bD.out,gV.out,(by repeat (first|(with_reducible first|exact HB.out|apply ah|apply af|apply ai|refine aj ?_ jC.out|refine aj ?_ jw.out|refine aj ?_ lQ.out)|exact HB.out))⟩)
                ·
                 skip
                 refine rH ?hg (N:=11) ?hd (cs:=#[.int .u8 0,.int .u8 0,.int .u8 0,.int .u8 0,.int .i64 0]) (t:=55) ?hr ?_;(case hd=>rfl);(case hg=>rfl);(case hr=>first|(go_simp;done)|(go_simp;rfl))
                 intro dC hg w37 hbox hb
                 have dS:=ae.mk (bf (g:=iG) (o:=.cells #[.int .u8 gu,.int .u8 fZ,.int .u8 fM,.int .u8 fD,.int .i64 eP] 55 (0,0)) (by (with_reducible repeat (first|refine au ?_ _|refine ay ?_|refine ak ?_ _));exact fG.out) hb)
                 have dR:=ae.mk (bf (g:=eF) (o:=.cells #[.int .u8 dI,.int .u8 dH,.int .u8 dG,.int .u8 dF,.int .i64 dE] 55 (0,0)) (by (with_reducible repeat (first|refine au ?_ _|refine ay ?_|refine ak ?_ _));exact bV.out) hb)
                 have dO:=ae.mk (bg (by repeat (first|(with_reducible first|exact HB.out|apply ah|apply af|apply ai|refine aj ?_ jC.out|refine aj ?_ jw.out)|exact HB.out)) hb)
                 have gQ:=ae.mk (hbox)
                 have lM:=ae.mk ((by rw [hg];exact (bQ (by repeat (first|(with_reducible first|exact HB.out|apply ah|apply af|apply ai|refine aj ?_ jC.out|refine aj ?_ jw.out)|exact HB.out))):w.heap.size≤dC))
                 have mg:=lM
                 have nI:=ae.mk ((by rw [hg];exact Nat.ne_of_lt (jY (g:=iG) (o:=.cells #[.int .u8 gu,.int .u8 fZ,.int .u8 fM,.int .u8 fD,.int .i64 eP] 55 (0,0)) (by (with_reducible repeat (first|refine au ?_ _|refine ay ?_|refine ak ?_ _));exact fG.out)):iG ≠ dC))
                 have vG:=ae.mk nI.out.symm
                 have vF:=ae.mk ((by rw [hg];exact Nat.ne_of_lt (jY (g:=eF) (o:=.cells #[.int .u8 dI,.int .u8 dH,.int .u8 dG,.int .u8 dF,.int .i64 dE] 55 (0,0)) (by (with_reducible repeat (first|refine au ?_ _|refine ay ?_|refine ak ?_ _));exact bV.out)):eF ≠ dC))
                 have xQ:=ae.mk vF.out.symm
                 clear fG
                 clear bV
                 clear HB
                 have fG:=dS
                 have bV:=dR
                 have HB:=dO
                 have iK:=gQ
                 have qV:=lM
                 have lQ:=mg
                 have eu:=nI
                 have gB:=vG
                 have bD:=vF
                 have gV:=xQ
                 clear dS dR dO gQ lM mg nI vG vF xQ
                 clear hb hbox hg
                 refine hK.out _ _ ⟨(ax bV.out 0).trans rfl,(ax bV.out 1).trans rfl,(ax bV.out 2).trans rfl,(ax bV.out 3).trans rfl,(ax bV.out 4).trans rfl⟩ (fun hHeld=>?_)
                 clear hK K
                 refine jo (a':=?_) ?_ ?_
                 rotate_left
                 ·
                  show Act.put _ (some 11) _=_
                  simp only [Act.put,List.setIfInBounds_toArray,List.set_cons_zero,List.set_cons_succ,bY,bZ]
                  rfl
                 refine pY (i:=5) (N:=some 58) #[true,true,true,true,true,true,false,false,false,true,false,false] rfl rfl (mW kZ.out (by kernel_rfl)) (by decide) (fun K hK=>?_)
                 refine pF Tryd.func65 (by kernel_rfl) rfl #[.agg #[.int .u8 dI,.int .u8 dH,.int .u8 dG,.int .u8 dF,.int .i64 dE],.int .u8 (bt t112 mQ),.int .i64 t116] (by rfl) rfl rfl (by (try simp only [List.map_toArray,List.map_cons,List.map_nil]);first|done|rfl|(simp only [List.length_drop,List.length_take];rfl)) ?_
                 with_reducible refine (aZ.calls k3 dI dH dG dF dE (bt t112 mQ) t116 t118 t119 t120 t121 t122 false _ PW.out).mono ?_
                 rintro e w38 ⟨rfl,hb⟩
                 refine ⟨_,rfl,?_⟩
                 have dS:=ae.mk (bf (g:=iG) (o:=.cells #[.int .u8 gu,.int .u8 fZ,.int .u8 fM,.int .u8 fD,.int .i64 eP] 55 (0,0)) (by (with_reducible repeat (first|refine au ?_ _|refine ay ?_|refine ak ?_ _));exact fG.out) hb)
                 have dR:=ae.mk (bf (g:=eF) (o:=.cells #[.int .u8 dI,.int .u8 dH,.int .u8 dG,.int .u8 dF,.int .i64 dE] 55 (0,0)) (by (with_reducible repeat (first|refine au ?_ _|refine ay ?_|refine ak ?_ _));exact bV.out) hb)
                 have dO:=ae.mk (bf (g:=dC) (o:=.cells #[.int .u8 0,.int .u8 0,.int .u8 0,.int .u8 0,.int .i64 0] 55 (0,0)) (by (with_reducible repeat (first|refine au ?_ _|refine ay ?_|refine ak ?_ _));exact iK.out) hb)
                 have gQ:=ae.mk (bg (by repeat (first|(with_reducible first|exact HB.out|apply ah|apply af|apply ai|refine aj ?_ jC.out|refine aj ?_ jw.out|refine aj ?_ lQ.out)|exact HB.out)) hb)
                 clear fG
                 clear bV
                 clear iK
                 clear HB
                 have fG:=dS
                 have bV:=dR
                 have iK:=dO
                 have HB:=gQ
                 clear dS dR dO gQ
                 (try clear hb)
                 (try clear hb2)
                 (try clear hk)
                 (try clear hi)
                 refine hK.out _ _ ⟨(ax bV.out 0).trans rfl,(ax bV.out 1).trans rfl,(ax bV.out 2).trans rfl,(ax bV.out 3).trans rfl,(ax bV.out 4).trans rfl⟩ (fun hHeld=>?_)
                 clear hK K
                 refine jo (a':=?_) ?_ ?_
                 rotate_left
                 ·
                  show Act.put _ (some 58) _=_
                  simp only [Act.put,List.setIfInBounds_toArray,List.set_cons_zero,List.set_cons_succ,bY,bZ]
                  rfl
                 refine gW (i:=6) (N:=some 52) (v:=?_) (a':=?_) #[true,true,true,true,true,true,true,false,false,true,false,false] rfl rfl (iF kZ.out (by kernel_rfl)) (fun _ _ _ h=>h) (Or.inl ⟨by rfl,?_⟩) ?_ ?_
                 rotate_left
                 ·
                  intro w'
                  go_simp
                  with_reducible rfl
                 rotate_left
                 ·
                  simp only [Act.put,List.setIfInBounds_toArray,List.set_cons_zero,List.set_cons_succ,bY,bZ]
                  rfl
                 refine gW (i:=7) (N:=some 59) (v:=?_) (a':=?_) #[true,true,true,true,true,true,true,true,false,true,false,false] rfl rfl (iF kZ.out (by kernel_rfl)) (fun _ _ _ h=>h) (Or.inl ⟨by rfl,?_⟩) ?_ ?_
                 rotate_left
                 ·
                  intro w'
                  go_simp
                  with_reducible rfl
                 rotate_left
                 ·
                  simp only [Act.put,List.setIfInBounds_toArray,List.set_cons_zero,List.set_cons_succ,bY,bZ]
                  rfl
                 refine gW (i:=8) (N:=some 60) (v:=?_) (a':=?_) #[true,true,true,true,true,true,true,true,true,true,false,false] rfl rfl (iF kZ.out (by kernel_rfl)) (fun _ _ _ h=>h) (Or.inl ⟨by rfl,?_⟩) ?_ ?_
                 rotate_left
                 ·
                  intro w'
                  go_simp
                  with_reducible rfl
                 rotate_left
                 ·
                  simp only [Act.put,List.setIfInBounds_toArray,List.set_cons_zero,List.set_cons_succ,bY,bZ]
                  rfl
                 exact jo (by simp only [pX,Act.put,List.setIfInBounds_toArray,List.set_cons_zero,List.set_cons_succ]) (xU (dC) _ ⟨hHeld,(by (with_reducible repeat (first|refine au ?_ _|refine ay ?_|refine ak ?_ _));exact fG.out),(by (with_reducible repeat (first|refine au ?_ _|refine ay ?_|refine ak ?_ _));exact bV.out),(by (with_reducible repeat (first|refine au ?_ _|refine ay ?_|refine ak ?_ _));exact iK.out),qV.out,lQ.out,eu.out,gB.out,bD.out,gV.out,(by repeat (first|(with_reducible first|exact HB.out|apply ah|apply af|apply ai|refine aj ?_ jC.out|refine aj ?_ jw.out|refine aj ?_ lQ.out)|exact HB.out))⟩)
               rintro dC H9 ⟨hS_,WJ,OV,WI,WH,WG,WE,WC,WB,WA,Wy⟩
               have dS:ae (H9.heap[iG]? = some (.cells #[.int .u8 gu,.int .u8 fZ,.int .u8 fM,.int .u8 fD,.int .i64 eP] 55 (0,0))):=⟨WJ⟩
               have dR:ae (H9.heap[eF]? = some (.cells #[.int .u8 dI,.int .u8 dH,.int .u8 dG,.int .u8 dF,.int .i64 dE] 55 (0,0))):=⟨OV⟩
               have dO:ae (H9.heap[dC]? = some (.cells #[.int .u8 0,.int .u8 0,.int .u8 0,.int .u8 0,.int .i64 0] 55 (0,0))):=⟨WI⟩
               have gQ:ae (w.heap.size≤dC):=⟨WH⟩
               have lM:ae (w.heap.size≤dC):=⟨WG⟩
               have mg:ae (iG ≠ dC):=⟨WE⟩
               have nI:ae (dC ≠ iG):=⟨WC⟩
               have vG:ae (eF ≠ dC):=⟨WB⟩
               have vF:ae (dC ≠ eF):=⟨WA⟩
               have xQ:ae (Below w.heap.size w H9):=⟨Wy⟩
               clear fG
               clear bV
               clear HB
               clear WJ OV WI WH WG WE WC WB WA Wy
               have fG:=dS
               have bV:=dR
               have iK:=dO
               have qV:=gQ
               have lQ:=lM
               have eu:=mg
               have gB:=nI
               have bD:=vG
               have gV:=vF
               have HB:=xQ
               clear dS dR dO gQ lM mg nI vG vF xQ
               have hHeld:H9.cell? ⟨eF,0,none⟩=some (.int .u8 dI)∧H9.cell? ⟨eF,1,none⟩=some (.int .u8 dH)∧H9.cell? ⟨eF,2,none⟩=some (.int .u8 dG)∧H9.cell? ⟨eF,3,none⟩=some (.int .u8 dF)∧H9.cell? ⟨eF,4,none⟩=some (.int .i64 dE):=hS_
               refine jo (a':=?_) ?_ ?_
               rotate_left
               ·
                simp only [pX,Act.put,List.setIfInBounds_toArray,List.set_cons_zero,List.set_cons_succ]
                rfl
               refine pY (i:=10) (N:=none) #[true,true,true,true,true,true,true,true,true,true,true,false] rfl rfl (mW kZ.out (by kernel_rfl)) (by decide) (fun K hK=>?_)
               have anV:H9.cell? ⟨dC,0,none⟩=some (.int .u8 0):=(ax iK.out 0).trans rfl
               have al7:=aC iK.out 0
               have ad5:=eu.out
               have ad4:=bD.out
               have aez:=gB.out
               have aey:=gV.out
               have anU:H9.cell? ⟨dC,1,none⟩=some (.int .u8 0):=(ax iK.out 1).trans rfl
               have al6:=aC iK.out 1
               have ad3:=eu.out
               have ad1:=bD.out
               have aex:=gB.out
               have aew:=gV.out
               have anT:H9.cell? ⟨dC,2,none⟩=some (.int .u8 0):=(ax iK.out 2).trans rfl
               have al5:=aC iK.out 2
               have adZ:=eu.out
               have adY:=bD.out
               have aev:=gB.out
               have aeu:=gV.out
               have anS:H9.cell? ⟨dC,3,none⟩=some (.int .u8 0):=(ax iK.out 3).trans rfl
               have al4:=aC iK.out 3
               have adX:=eu.out
               have adW:=bD.out
               have aet:=gB.out
               have aes:=gV.out
               have anR:H9.cell? ⟨dC,4,none⟩=some (.int .i64 0):=(ax iK.out 4).trans rfl
               have al3:=aC iK.out 4
               have adV:=eu.out
               have adU:=bD.out
               have aer:=gB.out
               have aeq:=gV.out
               refine Bf (w1:=?_) (by rfl) rfl ?_ ?_
               rotate_left
               ·
                go_simp
                rfl
               refine hK.out _ _ ⟨((cell_far (p:=⟨dC,_,none⟩) bD.out _).trans (((cell_far (p:=⟨dC,_,none⟩) bD.out _).trans (((cell_far (p:=⟨dC,_,none⟩) bD.out _).trans (((cell_far (p:=⟨dC,_,none⟩) bD.out _).trans (((cell_far (p:=⟨dC,_,none⟩) bD.out _).trans (hHeld.1)))))))))),((cell_far (p:=⟨dC,_,none⟩) bD.out _).trans (((cell_far (p:=⟨dC,_,none⟩) bD.out _).trans (((cell_far (p:=⟨dC,_,none⟩) bD.out _).trans (((cell_far (p:=⟨dC,_,none⟩) bD.out _).trans (((cell_far (p:=⟨dC,_,none⟩) bD.out _).trans (hHeld.2.1)))))))))),((cell_far (p:=⟨dC,_,none⟩) bD.out _).trans (((cell_far (p:=⟨dC,_,none⟩) bD.out _).trans (((cell_far (p:=⟨dC,_,none⟩) bD.out _).trans (((cell_far (p:=⟨dC,_,none⟩) bD.out _).trans (((cell_far (p:=⟨dC,_,none⟩) bD.out _).trans (hHeld.2.2.1)))))))))),((cell_far (p:=⟨dC,_,none⟩) bD.out _).trans (((cell_far (p:=⟨dC,_,none⟩) bD.out _).trans (((cell_far (p:=⟨dC,_,none⟩) bD.out _).trans (((cell_far (p:=⟨dC,_,none⟩) bD.out _).trans (((cell_far (p:=⟨dC,_,none⟩) bD.out _).trans (hHeld.2.2.2.1)))))))))),((cell_far (p:=⟨dC,_,none⟩) bD.out _).trans (((cell_far (p:=⟨dC,_,none⟩) bD.out _).trans (((cell_far (p:=⟨dC,_,none⟩) bD.out _).trans (((cell_far (p:=⟨dC,_,none⟩) bD.out _).trans (((cell_far (p:=⟨dC,_,none⟩) bD.out _).trans (hHeld.2.2.2.2))))))))))⟩ (fun hHeld=>?_)
               clear hK K
               refine gW (i:=11) (N:=some 12) (v:=?_) (a':=?_) #[true,true,true,true,true,true,true,true,true,true,true,true] rfl rfl (iF kZ.out (by kernel_rfl)) (fun _ _ _ h=>h) (Or.inl ⟨by rfl,?_⟩) ?_ ?_
               rotate_left
               ·
                intro w'
                go_simp
                with_reducible rfl
               rotate_left
               ·
                simp only [Act.put,List.setIfInBounds_toArray,List.set_cons_zero,List.set_cons_succ,bY,bZ]
                rfl
               refine ug (uV kZ.out (by kernel_rfl)) ?_
               have aaq:=jR.out
               have aag:=rJ.out
               have aap:=eu.out
               have aaf:=gB.out
               obtain ⟨Jr,Jq,Jp,Jo,Jn,II,IG,IE,IC,IB⟩:=jO fG.out
               try go_wp2
               refine bodyPost_ret (lS rfl _ _ iG 55 #[.int .u8 0,.int .u8 0,.int .u8 0,.int .u8 0,.int .i64 0] (0,0) _ rfl (by (with_reducible repeat (first|refine au ?_ _|refine ay ?_|refine ak ?_ _));refine dL (cs:=#[.int .u8 0,.int .u8 0,.int .u8 0,.int .u8 0,.int .i64 eP]) ?_ 4 _ rfl;(with_reducible repeat (first|refine au ?_ _|refine ay ?_|refine ak ?_ _));refine dL (cs:=#[.int .u8 0,.int .u8 0,.int .u8 0,.int .u8 fD,.int .i64 eP]) ?_ 3 _ rfl;(with_reducible repeat (first|refine au ?_ _|refine ay ?_|refine ak ?_ _));refine dL (cs:=#[.int .u8 0,.int .u8 0,.int .u8 fM,.int .u8 fD,.int .i64 eP]) ?_ 2 _ rfl;(with_reducible repeat (first|refine au ?_ _|refine ay ?_|refine ak ?_ _));refine dL (cs:=#[.int .u8 0,.int .u8 fZ,.int .u8 fM,.int .u8 fD,.int .i64 eP]) ?_ 1 _ rfl;(with_reducible repeat (first|refine au ?_ _|refine ay ?_|refine ak ?_ _));refine dL (cs:=#[.int .u8 gu,.int .u8 fZ,.int .u8 fM,.int .u8 fD,.int .i64 eP]) ?_ 0 _ rfl;(with_reducible repeat (first|refine au ?_ _|refine ay ?_|refine ak ?_ _));refine fO ?_ eu.out _;(with_reducible repeat (first|refine au ?_ _|refine ay ?_|refine ak ?_ _));refine fO ?_ eu.out _;(with_reducible repeat (first|refine au ?_ _|refine ay ?_|refine ak ?_ _));refine fO ?_ eu.out _;(with_reducible repeat (first|refine au ?_ _|refine ay ?_|refine ak ?_ _));refine fO ?_ eu.out _;(with_reducible repeat (first|refine au ?_ _|refine ay ?_|refine ak ?_ _));refine fO ?_ eu.out _;(with_reducible repeat (first|refine au ?_ _|refine ay ?_|refine ak ?_ _));exact fG.out) Tryd.underlying55 rfl (by kernel_rfl)) rfl ?_
               exact ⟨by first|rfl|(simp [aQ,aN] <;> rfl)|(simp only [← wI];first|rfl|(simp [aQ,aN] <;> rfl))|(simp [*,aQ,aN] <;> rfl),by repeat (first|(with_reducible first|exact HB.out|apply ah|apply af|apply ai|refine aj ?_ jC.out|refine aj ?_ jw.out|refine aj ?_ lQ.out)|exact HB.out)⟩
             ·
              rw [if_neg c20] at H
              have WO:(t117 == 0)=false:=beq_eq_false_iff_ne.mpr c20
              have acm:(t117 != 0)=true:=bne_iff_ne.mpr c20
              simp only [Option.some.injEq,Prod.mk.injEq] at H
              obtain ⟨rfl,rfl,rfl,rfl,rfl,rfl⟩:=H
              have zB:0≤((oK):Int):=of_decide_eq_true (by first|(with_reducible assumption)|assumption)
              have zy:(oK) < (l0.length:Int):=of_decide_eq_true (by first|(with_reducible assumption)|assumption)
              obtain ⟨WU,e115,oq⟩:=Kd.kC HR0.out (oK) zB zy
              cases e115
              replace oq:=(HB.out.cell (World.block_lt_of_cell? w _ oq)).trans oq
              replace zB:=eq_true zB
              replace zy:=eq_true zy
              try go_wp2_with (first|((with_reducible refine bu (f:=64) rfl ?_);refine dQ (some 49) rfl rfl Tryd.func64 (by kernel_rfl) rfl #[.string (dV ByteArray.empty l0 (oK))] rfl (by (try simp only [List.map_toArray,List.map_cons,List.map_nil]);first|done|(simp only [wI];rfl)|rfl|(simp only [List.length_drop,List.length_take];rfl)) ?_;(with_reducible refine (aH.calls k3 (dV ByteArray.empty l0 (oK)) t116 t117 _ Zj.out).mono ?_);rintro e w' ⟨rfl,⟨nd,rfl⟩⟩;refine ⟨_,rfl,?_⟩;(try (rw [qL wr];generalize Au:World.drewN wr _=wr;have dS:ae (wr.heap[iG]? = some (.cells #[.int .u8 gu,.int .u8 fZ,.int .u8 fM,.int .u8 fD,.int .i64 eP] 55 (0,0))):=⟨by rw [← Au];exact (by (with_reducible repeat (first|refine au ?_ _|refine ay ?_|refine ak ?_ _));exact fG.out)⟩;have dR:ae (wr.heap[eF]? = some (.cells #[.int .u8 dI,.int .u8 dH,.int .u8 dG,.int .u8 dF,.int .i64 dE] 55 (0,0))):=⟨by rw [← Au];exact (by (with_reducible repeat (first|refine au ?_ _|refine ay ?_|refine ak ?_ _));exact bV.out)⟩;have dO:ae (Below w.heap.size w wr):=⟨by rw [← Au];exact (by repeat (first|(with_reducible first|exact HB.out|apply ah|apply af|apply ai|refine aj ?_ jC.out|refine aj ?_ jw.out)|exact HB.out))⟩;clear fG bV HB Au;have fG:=dS;have bV:=dR;have HB:=dO;clear dS dR dO))))
              have dS:=ae.mk (ay fG.out)
              have dR:=ae.mk (ay bV.out)
              have dO:=ae.mk (ai HB.out)
              clear fG
              clear bV
              clear HB
              have fG:=dS
              have bV:=dR
              have HB:=dO
              clear dS dR dO
              have Ef:0≤(mQ:Int):=of_decide_eq_true (by first|(with_reducible assumption)|assumption)
              have Ec:mQ < (t112.size:Int):=of_decide_eq_true (by first|(with_reducible assumption)|assumption)
              have NQ:=kF t112 mQ
              replace Ef:=eq_true Ef
              replace Ec:=eq_true Ec
              refine qG (n:=12) (S:=fun w'=>w'.cell? ⟨eF,0,none⟩=some (.int .u8 dI)∧w'.cell? ⟨eF,1,none⟩=some (.int .u8 dH)∧w'.cell? ⟨eF,2,none⟩=some (.int .u8 dG)∧w'.cell? ⟨eF,3,none⟩=some (.int .u8 dF)∧w'.cell? ⟨eF,4,none⟩=some (.int .i64 dE)) (ds:=[]) #[false,false,false,false,false,false,false,false,false,false,false,false] (by kernel_rfl) rfl rfl ⟨(ax bV.out 0).trans rfl,(ax bV.out 1).trans rfl,(ax bV.out 2).trans rfl,(ax bV.out 3).trans rfl,(ax bV.out 4).trans rfl⟩ (fun hHeld=>?_);refine qx aJ.MR aJ.Gz (fun kZ AY=>?_)
              generalize wr.drew=w48 at fG bV HB hHeld ⊢
              refine gW (i:=1) (N:=some 54) (v:=?_) (a':=?_) #[false,true,false,false,false,false,false,false,false,false,false,false] rfl rfl (iF kZ.out (by kernel_rfl)) (fun _ _ _ h=>h) (Or.inl ⟨by rfl,?_⟩) ?_ ?_
              rotate_left
              ·
               intro w'
               go_simp
               with_reducible rfl
              rotate_left
              ·
               simp only [Act.put,List.setIfInBounds_toArray,List.set_cons_zero,List.set_cons_succ,bY,bZ]
               rfl
              refine gW (i:=2) (N:=some 55) (v:=?_) (a':=?_) #[false,true,true,false,false,false,false,false,false,false,false,false] rfl rfl (iF kZ.out (by kernel_rfl)) (fun _ _ _ h=>h) (Or.inl ⟨by rfl,?_⟩) ?_ ?_
              rotate_left
              ·
               intro w'
               go_simp
               with_reducible rfl
              rotate_left
              ·
               simp only [Act.put,List.setIfInBounds_toArray,List.set_cons_zero,List.set_cons_succ,bY,bZ]
               rfl
              refine gW (i:=4) (N:=some 57) (v:=?_) (a':=?_) #[false,true,true,false,true,false,false,false,false,false,false,false] rfl rfl (iF kZ.out (by kernel_rfl)) (fun _ _ _ h=>h) (Or.inl ⟨by rfl,?_⟩) ?_ ?_
              rotate_left
              ·
               intro w'
               go_simp
               with_reducible rfl
              rotate_left
              ·
               simp only [Act.put,List.setIfInBounds_toArray,List.set_cons_zero,List.set_cons_succ,bY,bZ]
               rfl
              refine kG (i:=0) (N:=some 53) (v:=?_) (a':=?_) #[true,true,true,false,true,false,false,false,false,false,false,false] rfl rfl (kE kZ.out AY.out (by kernel_rfl)) (fun _ _ _ h=>h) (Or.inl ⟨by rfl,?_⟩) hHeld ?_ ?_
              rotate_left
              ·
               rintro w' ⟨s0,s1,s2,s3,s4⟩
               go_simp
               with_reducible rfl
              rotate_left
              ·
               simp only [Act.put,List.setIfInBounds_toArray,List.set_cons_zero,List.set_cons_succ,bY,bZ]
               rfl
              refine kG (i:=3) (N:=some 56) (v:=?_) (a':=?_) #[true,true,true,true,true,false,false,false,false,false,false,false] rfl rfl (kE kZ.out AY.out (by kernel_rfl)) (fun _ _ _ h=>h) (Or.inl ⟨by rfl,?_⟩) hHeld ?_ ?_
              rotate_left
              ·
               rintro w' ⟨s0,s1,s2,s3,s4⟩
               go_simp
               with_reducible rfl
              rotate_left
              ·
               simp only [Act.put,List.setIfInBounds_toArray,List.set_cons_zero,List.set_cons_succ,bY,bZ]
               rfl
              refine NL (σ:=Nat) 2 #[true,true,true,true,true,true,true,true,true,true,false,false] (fun s_=>[(58,.tuple #[.agg #[.int .u8 t118,.int .u8 t119,.int .u8 t120,.int .u8 t121,.int .i64 t122],.bool t123]),(11,.pointer (some ⟨s_,0,none⟩)),(52,.tuple #[.agg #[.int .u8 t118,.int .u8 t119,.int .u8 t120,.int .u8 t121,.int .i64 t122],.bool t123]),(59,.agg #[.int .u8 t118,.int .u8 t119,.int .u8 t120,.int .u8 t121,.int .i64 t122]),(60,.bool t123)]) (fun s_ w'=>(w'.cell? ⟨eF,0,none⟩=some (.int .u8 dI)∧w'.cell? ⟨eF,1,none⟩=some (.int .u8 dH)∧w'.cell? ⟨eF,2,none⟩=some (.int .u8 dG)∧w'.cell? ⟨eF,3,none⟩=some (.int .u8 dF)∧w'.cell? ⟨eF,4,none⟩=some (.int .i64 dE))∧(w'.heap[iG]? = some (.cells #[.int .u8 gu,.int .u8 fZ,.int .u8 fM,.int .u8 fD,.int .i64 eP] 55 (0,0)))∧(w'.heap[eF]? = some (.cells #[.int .u8 dI,.int .u8 dH,.int .u8 dG,.int .u8 dF,.int .i64 dE] 55 (0,0)))∧(w'.heap[s_]? = some (.cells #[.int .u8 0,.int .u8 0,.int .u8 0,.int .u8 0,.int .i64 0] 55 (0,0)))∧(w.heap.size≤s_)∧(w.heap.size≤s_)∧(iG ≠ s_)∧(s_ ≠ iG)∧(eF ≠ s_)∧(s_ ≠ eF)∧(Below w.heap.size w w')) ?_ ?_
              rotate_left
              ·
               intro xU
               refine Xv (i:=5) (j:=9) (Ni:=some 58) (Nj:=some 11) #[true,true,true,true,true,true,false,false,false,false,false,false] #[true,true,true,true,true,false,false,false,false,true,false,false] rfl rfl rfl rfl (FM kZ.out (by kernel_rfl)) (by decide) (by decide) (fun K hK=>?_) (fun K hK=>?_)
               ·
                skip
                refine pF Tryd.func65 (by kernel_rfl) rfl #[.agg #[.int .u8 dI,.int .u8 dH,.int .u8 dG,.int .u8 dF,.int .i64 dE],.int .u8 (bt t112 mQ),.int .i64 t116] (by rfl) rfl rfl (by (try simp only [List.map_toArray,List.map_cons,List.map_nil]);first|done|rfl|(simp only [List.length_drop,List.length_take];rfl)) ?_
                with_reducible refine (aZ.calls k3 dI dH dG dF dE (bt t112 mQ) t116 t118 t119 t120 t121 t122 t123 _ PW.out).mono ?_
                rintro e w49 ⟨rfl,hb⟩
                refine ⟨_,rfl,?_⟩
                have dS:=ae.mk (bf (g:=iG) (o:=.cells #[.int .u8 gu,.int .u8 fZ,.int .u8 fM,.int .u8 fD,.int .i64 eP] 55 (0,0)) (by (with_reducible repeat (first|refine au ?_ _|refine ay ?_|refine ak ?_ _));exact fG.out) hb)
                have dR:=ae.mk (bf (g:=eF) (o:=.cells #[.int .u8 dI,.int .u8 dH,.int .u8 dG,.int .u8 dF,.int .i64 dE] 55 (0,0)) (by (with_reducible repeat (first|refine au ?_ _|refine ay ?_|refine ak ?_ _));exact bV.out) hb)
                have dO:=ae.mk (bg (by repeat (first|(with_reducible first|exact HB.out|apply ah|apply af|apply ai|refine aj ?_ jC.out|refine aj ?_ jw.out)|exact HB.out)) hb)
                clear fG
                clear bV
                clear HB
                have fG:=dS
                have bV:=dR
                have HB:=dO
                clear dS dR dO
                (try clear hb)
                (try clear hb2)
                (try clear hk)
                (try clear hi)
                refine hK.out _ _ ⟨(ax bV.out 0).trans rfl,(ax bV.out 1).trans rfl,(ax bV.out 2).trans rfl,(ax bV.out 3).trans rfl,(ax bV.out 4).trans rfl⟩ (fun hHeld=>?_)
                clear hK K
                refine jo (a':=?_) ?_ ?_
                rotate_left
                ·
                 show Act.put _ (some 58) _=_
                 simp only [Act.put,List.setIfInBounds_toArray,List.set_cons_zero,List.set_cons_succ,bY,bZ]
                 rfl
                refine gW (i:=6) (N:=some 52) (v:=?_) (a':=?_) #[true,true,true,true,true,true,true,false,false,false,false,false] rfl rfl (iF kZ.out (by kernel_rfl)) (fun _ _ _ h=>h) (Or.inl ⟨by rfl,?_⟩) ?_ ?_
                rotate_left
                ·
                 intro w'
                 go_simp
                 with_reducible rfl
                rotate_left
                ·
                 simp only [Act.put,List.setIfInBounds_toArray,List.set_cons_zero,List.set_cons_succ,bY,bZ]
                 rfl
                refine gW (i:=7) (N:=some 59) (v:=?_) (a':=?_) #[true,true,true,true,true,true,true,true,false,false,false,false] rfl rfl (iF kZ.out (by kernel_rfl)) (fun _ _ _ h=>h) (Or.inl ⟨by rfl,?_⟩) ?_ ?_
                rotate_left
                ·
                 intro w'
                 go_simp
                 with_reducible rfl
                rotate_left
                ·
                 simp only [Act.put,List.setIfInBounds_toArray,List.set_cons_zero,List.set_cons_succ,bY,bZ]
                 rfl
                refine gW (i:=8) (N:=some 60) (v:=?_) (a':=?_) #[true,true,true,true,true,true,true,true,true,false,false,false] rfl rfl (iF kZ.out (by kernel_rfl)) (fun _ _ _ h=>h) (Or.inl ⟨by rfl,?_⟩) ?_ ?_
                rotate_left
                ·
                 intro w'
                 go_simp
                 with_reducible rfl
                rotate_left
                ·
                 simp only [Act.put,List.setIfInBounds_toArray,List.set_cons_zero,List.set_cons_succ,bY,bZ]
                 rfl
                refine pY (i:=9) (N:=some 11) #[true,true,true,true,true,true,true,true,true,true,false,false] rfl rfl (mW kZ.out (by kernel_rfl)) (by decide) (fun K hK=>?_)
                refine rH ?hg (N:=11) ?hd (cs:=#[.int .u8 0,.int .u8 0,.int .u8 0,.int .u8 0,.int .i64 0]) (t:=55) ?hr ?_;(case hd=>rfl);(case hg=>rfl);(case hr=>first|(go_simp;done)|(go_simp;rfl))
                intro dC hg w50 hbox hb
                have dS:=ae.mk (bf (g:=iG) (o:=.cells #[.int .u8 gu,.int .u8 fZ,.int .u8 fM,.int .u8 fD,.int .i64 eP] 55 (0,0)) (by (with_reducible repeat (first|refine au ?_ _|refine ay ?_|refine ak ?_ _));exact fG.out) hb)
                have dR:=ae.mk (bf (g:=eF) (o:=.cells #[.int .u8 dI,.int .u8 dH,.int .u8 dG,.int .u8 dF,.int .i64 dE] 55 (0,0)) (by (with_reducible repeat (first|refine au ?_ _|refine ay ?_|refine ak ?_ _));exact bV.out) hb)
                have dO:=ae.mk (bg (by repeat (first|(with_reducible first|exact HB.out|apply ah|apply af|apply ai|refine aj ?_ jC.out|refine aj ?_ jw.out)|exact HB.out)) hb)
                have gQ:=ae.mk (hbox)
                have lM:=ae.mk ((by rw [hg];exact (bQ (by repeat (first|(with_reducible first|exact HB.out|apply ah|apply af|apply ai|refine aj ?_ jC.out|refine aj ?_ jw.out)|exact HB.out))):w.heap.size≤dC))
                have mg:=lM
                have nI:=ae.mk ((by rw [hg];exact Nat.ne_of_lt (jY (g:=iG) (o:=.cells #[.int .u8 gu,.int .u8 fZ,.int .u8 fM,.int .u8 fD,.int .i64 eP] 55 (0,0)) (by (with_reducible repeat (first|refine au ?_ _|refine ay ?_|refine ak ?_ _));exact fG.out)):iG ≠ dC))
                have vG:=ae.mk nI.out.symm
                have vF:=ae.mk ((by rw [hg];exact Nat.ne_of_lt (jY (g:=eF) (o:=.cells #[.int .u8 dI,.int .u8 dH,.int .u8 dG,.int .u8 dF,.int .i64 dE] 55 (0,0)) (by (with_reducible repeat (first|refine au ?_ _|refine ay ?_|refine ak ?_ _));exact bV.out)):eF ≠ dC))
                have xQ:=ae.mk vF.out.symm
                clear fG
                clear bV
                clear HB
                have fG:=dS
                have bV:=dR
                have HB:=dO
                have iK:=gQ
                have qV:=lM
                have lQ:=mg
                have eu:=nI
                have gB:=vG
                have bD:=vF
                have gV:=xQ
                clear dS dR dO gQ lM mg nI vG vF xQ
                clear hb hbox hg
                refine hK.out _ _ ⟨(ax bV.out 0).trans rfl,(ax bV.out 1).trans rfl,(ax bV.out 2).trans rfl,(ax bV.out 3).trans rfl,(ax bV.out 4).trans rfl⟩ (fun hHeld=>?_)
                clear hK K
                refine jo (a':=?_) ?_ ?_
                rotate_left
                ·
                 show Act.put _ (some 11) _=_
                 simp only [Act.put,List.setIfInBounds_toArray,List.set_cons_zero,List.set_cons_succ,bY,bZ]
                 rfl
                exact jo (by simp only [pX,Act.put,List.setIfInBounds_toArray,List.set_cons_zero,List.set_cons_succ]) (xU (dC) _ ⟨hHeld,(by (with_reducible repeat (first|refine au ?_ _|refine ay ?_|refine ak ?_ _));exact fG.out),(by (with_reducible repeat (first|refine au ?_ _|refine ay ?_|refine ak ?_ _));exact bV.out),(by (with_reducible repeat (first|refine au ?_ _|refine ay ?_|refine ak ?_ _));exact iK.out),qV.out,lQ.out,eu.out,gB.out,bD.out,gV.out,(by repeat (first|(with_reducible first|exact HB.out|apply ah|apply af|apply ai|refine aj ?_ jC.out|refine aj ?_ jw.out|refine aj ?_ lQ.out)|exact HB.out))⟩)
               ·
                skip
                refine rH ?hg (N:=11) ?hd (cs:=#[.int .u8 0,.int .u8 0,.int .u8 0,.int .u8 0,.int .i64 0]) (t:=55) ?hr ?_;(case hd=>rfl);(case hg=>rfl);(case hr=>first|(go_simp;done)|(go_simp;rfl))
                intro dC hg w49 hbox hb
                have dS:=ae.mk (bf (g:=iG) (o:=.cells #[.int .u8 gu,.int .u8 fZ,.int .u8 fM,.int .u8 fD,.int .i64 eP] 55 (0,0)) (by (with_reducible repeat (first|refine au ?_ _|refine ay ?_|refine ak ?_ _));exact fG.out) hb)
                have dR:=ae.mk (bf (g:=eF) (o:=.cells #[.int .u8 dI,.int .u8 dH,.int .u8 dG,.int .u8 dF,.int .i64 dE] 55 (0,0)) (by (with_reducible repeat (first|refine au ?_ _|refine ay ?_|refine ak ?_ _));exact bV.out) hb)
                have dO:=ae.mk (bg (by repeat (first|(with_reducible first|exact HB.out|apply ah|apply af|apply ai|refine aj ?_ jC.out|refine aj ?_ jw.out)|exact HB.out)) hb)
                have gQ:=ae.mk (hbox)
                have lM:=ae.mk ((by rw [hg];exact (bQ (by repeat (first|(with_reducible first|exact HB.out|apply ah|apply af|apply ai|refine aj ?_ jC.out|refine aj ?_ jw.out)|exact HB.out))):w.heap.size≤dC))
                have mg:=lM
                have nI:=ae.mk ((by rw [hg];exact Nat.ne_of_lt (jY (g:=iG) (o:=.cells #[.int .u8 gu,.int .u8 fZ,.int .u8 fM,.int .u8 fD,.int .i64 eP] 55 (0,0)) (by (with_reducible repeat (first|refine au ?_ _|refine ay ?_|refine ak ?_ _));exact fG.out)):iG ≠ dC))
                have vG:=ae.mk nI.out.symm
                have vF:=ae.mk ((by rw [hg];exact Nat.ne_of_lt (jY (g:=eF) (o:=.cells #[.int .u8 dI,.int .u8 dH,.int .u8 dG,.int .u8 dF,.int .i64 dE] 55 (0,0)) (by (with_reducible repeat (first|refine au ?_ _|refine ay ?_|refine ak ?_ _));exact bV.out)):eF ≠ dC))
                have xQ:=ae.mk vF.out.symm
                clear fG
                clear bV
                clear HB
                have fG:=dS
                have bV:=dR
                have HB:=dO
                have iK:=gQ
                have qV:=lM
                have lQ:=mg
                have eu:=nI
                have gB:=vG
                have bD:=vF
                have gV:=xQ
                clear dS dR dO gQ lM mg nI vG vF xQ
                clear hb hbox hg
                refine hK.out _ _ ⟨(ax bV.out 0).trans rfl,(ax bV.out 1).trans rfl,(ax bV.out 2).trans rfl,(ax bV.out 3).trans rfl,(ax bV.out 4).trans rfl⟩ (fun hHeld=>?_)
                clear hK K
                refine jo (a':=?_) ?_ ?_
                rotate_left
                ·
                 show Act.put _ (some 11) _=_
                 simp only [Act.put,List.setIfInBounds_toArray,List.set_cons_zero,List.set_cons_succ,bY,bZ]
                 rfl
                refine pY (i:=5) (N:=some 58) #[true,true,true,true,true,true,false,false,false,true,false,false] rfl rfl (mW kZ.out (by kernel_rfl)) (by decide) (fun K hK=>?_)
                refine pF Tryd.func65 (by kernel_rfl) rfl #[.agg #[.int .u8 dI,.int .u8 dH,.int .u8 dG,.int .u8 dF,.int .i64 dE],.int .u8 (bt t112 mQ),.int .i64 t116] (by rfl) rfl rfl (by (try simp only [List.map_toArray,List.map_cons,List.map_nil]);first|done|rfl|(simp only [List.length_drop,List.length_take];rfl)) ?_
                with_reducible refine (aZ.calls k3 dI dH dG dF dE (bt t112 mQ) t116 t118 t119 t120 t121 t122 t123 _ PW.out).mono ?_
                rintro e w50 ⟨rfl,hb⟩
                refine ⟨_,rfl,?_⟩
                have dS:=ae.mk (bf (g:=iG) (o:=.cells #[.int .u8 gu,.int .u8 fZ,.int .u8 fM,.int .u8 fD,.int .i64 eP] 55 (0,0)) (by (with_reducible repeat (first|refine au ?_ _|refine ay ?_|refine ak ?_ _));exact fG.out) hb)
                have dR:=ae.mk (bf (g:=eF) (o:=.cells #[.int .u8 dI,.int .u8 dH,.int .u8 dG,.int .u8 dF,.int .i64 dE] 55 (0,0)) (by (with_reducible repeat (first|refine au ?_ _|refine ay ?_|refine ak ?_ _));exact bV.out) hb)
                have dO:=ae.mk (bf (g:=dC) (o:=.cells #[.int .u8 0,.int .u8 0,.int .u8 0,.int .u8 0,.int .i64 0] 55 (0,0)) (by (with_reducible repeat (first|refine au ?_ _|refine ay ?_|refine ak ?_ _));exact iK.out) hb)
                have gQ:=ae.mk (bg (by repeat (first|(with_reducible first|exact HB.out|apply ah|apply af|apply ai|refine aj ?_ jC.out|refine aj ?_ jw.out|refine aj ?_ lQ.out)|exact HB.out)) hb)
                clear fG
                clear bV
                clear iK
                clear HB
                have fG:=dS
                have bV:=dR
                have iK:=dO
                have HB:=gQ
                clear dS dR dO gQ
                (try clear hb)
                (try clear hb2)
                (try clear hk)
                (try clear hi)
                refine hK.out _ _ ⟨(ax bV.out 0).trans rfl,(ax bV.out 1).trans rfl,(ax bV.out 2).trans rfl,(ax bV.out 3).trans rfl,(ax bV.out 4).trans rfl⟩ (fun hHeld=>?_)
                clear hK K
                refine jo (a':=?_) ?_ ?_
                rotate_left
                ·
                 show Act.put _ (some 58) _=_
                 simp only [Act.put,List.setIfInBounds_toArray,List.set_cons_zero,List.set_cons_succ,bY,bZ]
                 rfl
                refine gW (i:=6) (N:=some 52) (v:=?_) (a':=?_) #[true,true,true,true,true,true,true,false,false,true,false,false] rfl rfl (iF kZ.out (by kernel_rfl)) (fun _ _ _ h=>h) (Or.inl ⟨by rfl,?_⟩) ?_ ?_
                rotate_left
                ·
                 intro w'
                 go_simp
                 with_reducible rfl
                rotate_left
                ·
                 simp only [Act.put,List.setIfInBounds_toArray,List.set_cons_zero,List.set_cons_succ,bY,bZ]
                 rfl
                refine gW (i:=7) (N:=some 59) (v:=?_) (a':=?_) #[true,true,true,true,true,true,true,true,false,true,false,false] rfl rfl (iF kZ.out (by kernel_rfl)) (fun _ _ _ h=>h) (Or.inl ⟨by rfl,?_⟩) ?_ ?_
                rotate_left
                ·
                 intro w'
                 go_simp
                 with_reducible rfl
                rotate_left
                ·
                 simp only [Act.put,List.setIfInBounds_toArray,List.set_cons_zero,List.set_cons_succ,bY,bZ]
                 rfl
                refine gW (i:=8) (N:=some 60) (v:=?_) (a':=?_) #[true,true,true,true,true,true,true,true,true,true,false,false] rfl rfl (iF kZ.out (by kernel_rfl)) (fun _ _ _ h=>h) (Or.inl ⟨by rfl,?_⟩) ?_ ?_
                rotate_left
                ·
                 intro w'
                 go_simp
                 with_reducible rfl
                rotate_left
                ·
                 simp only [Act.put,List.setIfInBounds_toArray,List.set_cons_zero,List.set_cons_succ,bY,bZ]
                 rfl
                exact jo (by simp only [pX,Act.put,List.setIfInBounds_toArray,List.set_cons_zero,List.set_cons_succ]) (xU (dC) _ ⟨hHeld,(by (with_reducible repeat (first|refine au ?_ _|refine ay ?_|refine ak ?_ _));exact fG.out),(by (with_reducible repeat (first|refine au ?_ _|refine ay ?_|refine ak ?_ _));exact bV.out),(by (with_reducible repeat (first|refine au ?_ _|refine ay ?_|refine ak ?_ _));exact iK.out),qV.out,lQ.out,eu.out,gB.out,bD.out,gV.out,(by repeat (first|(with_reducible first|exact HB.out|apply ah|apply af|apply ai|refine aj ?_ jC.out|refine aj ?_ jw.out|refine aj ?_ lQ.out)|exact HB.out))⟩)
              rintro dC FI ⟨hS_,WJ,OV,WI,WH,WG,WE,WC,WB,WA,Wy⟩
              have dS:ae (FI.heap[iG]? = some (.cells #[.int .u8 gu,.int .u8 fZ,.int .u8 fM,.int .u8 fD,.int .i64 eP] 55 (0,0))):=⟨WJ⟩
              have dR:ae (FI.heap[eF]? = some (.cells #[.int .u8 dI,.int .u8 dH,.int .u8 dG,.int .u8 dF,.int .i64 dE] 55 (0,0))):=⟨OV⟩
              have dO:ae (FI.heap[dC]? = some (.cells #[.int .u8 0,.int .u8 0,.int .u8 0,.int .u8 0,.int .i64 0] 55 (0,0))):=⟨WI⟩
              have gQ:ae (w.heap.size≤dC):=⟨WH⟩
              have lM:ae (w.heap.size≤dC):=⟨WG⟩
              have mg:ae (iG ≠ dC):=⟨WE⟩
              have nI:ae (dC ≠ iG):=⟨WC⟩
              have vG:ae (eF ≠ dC):=⟨WB⟩
              have vF:ae (dC ≠ eF):=⟨WA⟩
              have xQ:ae (Below w.heap.size w FI):=⟨Wy⟩
              clear fG
              clear bV
              clear HB
              clear WJ OV WI WH WG WE WC WB WA Wy
              have fG:=dS
              have bV:=dR
              have iK:=dO
              have qV:=gQ
              have lQ:=lM
              have eu:=mg
              have gB:=nI
              have bD:=vG
              have gV:=vF
              have HB:=xQ
              clear dS dR dO gQ lM mg nI vG vF xQ
              have hHeld:FI.cell? ⟨eF,0,none⟩=some (.int .u8 dI)∧FI.cell? ⟨eF,1,none⟩=some (.int .u8 dH)∧FI.cell? ⟨eF,2,none⟩=some (.int .u8 dG)∧FI.cell? ⟨eF,3,none⟩=some (.int .u8 dF)∧FI.cell? ⟨eF,4,none⟩=some (.int .i64 dE):=hS_
              refine jo (a':=?_) ?_ ?_
              rotate_left
              ·
               simp only [pX,Act.put,List.setIfInBounds_toArray,List.set_cons_zero,List.set_cons_succ]
               rfl
              refine pY (i:=10) (N:=none) #[true,true,true,true,true,true,true,true,true,true,true,false] rfl rfl (mW kZ.out (by kernel_rfl)) (by decide) (fun K hK=>?_)
              have anP:FI.cell? ⟨dC,0,none⟩=some (.int .u8 0):=(ax iK.out 0).trans rfl
              have al2:=aC iK.out 0
              have adT:=eu.out
              have adS:=bD.out
              have aep:=gB.out
              have aeo:=gV.out
              have anO:FI.cell? ⟨dC,1,none⟩=some (.int .u8 0):=(ax iK.out 1).trans rfl
              have al1:=aC iK.out 1
              have adR:=eu.out
              have adQ:=bD.out
              have aen:=gB.out
              have aem:=gV.out
              have anN:FI.cell? ⟨dC,2,none⟩=some (.int .u8 0):=(ax iK.out 2).trans rfl
              have al0:=aC iK.out 2
              have adP:=eu.out
              have adO:=bD.out
              have ael:=gB.out
              have aek:=gV.out
              have anM:FI.cell? ⟨dC,3,none⟩=some (.int .u8 0):=(ax iK.out 3).trans rfl
              have alZ:=aC iK.out 3
              have adN:=eu.out
              have adM:=bD.out
              have aej:=gB.out
              have aei:=gV.out
              have anL:FI.cell? ⟨dC,4,none⟩=some (.int .i64 0):=(ax iK.out 4).trans rfl
              have alY:=aC iK.out 4
              have adL:=eu.out
              have adK:=bD.out
              have aeh:=gB.out
              have aeg:=gV.out
              refine Bf (w1:=?_) (by rfl) rfl ?_ ?_
              rotate_left
              ·
               go_simp
               rfl
              refine hK.out _ _ ⟨((cell_far (p:=⟨dC,_,none⟩) bD.out _).trans (((cell_far (p:=⟨dC,_,none⟩) bD.out _).trans (((cell_far (p:=⟨dC,_,none⟩) bD.out _).trans (((cell_far (p:=⟨dC,_,none⟩) bD.out _).trans (((cell_far (p:=⟨dC,_,none⟩) bD.out _).trans (hHeld.1)))))))))),((cell_far (p:=⟨dC,_,none⟩) bD.out _).trans (((cell_far (p:=⟨dC,_,none⟩) bD.out _).trans (((cell_far (p:=⟨dC,_,none⟩) bD.out _).trans (((cell_far (p:=⟨dC,_,none⟩) bD.out _).trans (((cell_far (p:=⟨dC,_,none⟩) bD.out _).trans (hHeld.2.1)))))))))),((cell_far (p:=⟨dC,_,none⟩) bD.out _).trans (((cell_far (p:=⟨dC,_,none⟩) bD.out _).trans (((cell_far (p:=⟨dC,_,none⟩) bD.out _).trans (((cell_far (p:=⟨dC,_,none⟩) bD.out _).trans (((cell_far (p:=⟨dC,_,none⟩) bD.out _).trans (hHeld.2.2.1)))))))))),((cell_far (p:=⟨dC,_,none⟩) bD.out _).trans (((cell_far (p:=⟨dC,_,none⟩) bD.out _).trans (((cell_far (p:=⟨dC,_,none⟩) bD.out _).trans (((cell_far (p:=⟨dC,_,none⟩) bD.out _).trans (((cell_far (p:=⟨dC,_,none⟩) bD.out _).trans (hHeld.2.2.2.1)))))))))),((cell_far (p:=⟨dC,_,none⟩) bD.out _).trans (((cell_far (p:=⟨dC,_,none⟩) bD.out _).trans (((cell_far (p:=⟨dC,_,none⟩) bD.out _).trans (((cell_far (p:=⟨dC,_,none⟩) bD.out _).trans (((cell_far (p:=⟨dC,_,none⟩) bD.out _).trans (hHeld.2.2.2.2))))))))))⟩ (fun hHeld=>?_)
              clear hK K
              refine gW (i:=11) (N:=some 12) (v:=?_) (a':=?_) #[true,true,true,true,true,true,true,true,true,true,true,true] rfl rfl (iF kZ.out (by kernel_rfl)) (fun _ _ _ h=>h) (Or.inl ⟨by rfl,?_⟩) ?_ ?_
              rotate_left
              ·
               intro w'
               go_simp
               with_reducible rfl
              rotate_left
              ·
               simp only [Act.put,List.setIfInBounds_toArray,List.set_cons_zero,List.set_cons_succ,bY,bZ]
               rfl
              refine ug (uV kZ.out (by kernel_rfl)) ?_
              have aam:=jR.out
              have aac:=rJ.out
              have alD:=eu.out
              have ak9:=gB.out
              obtain ⟨Jm,Jl,Jk,Jj,Ji,IA,Iz,Iy,Iw,Iu⟩:=jO fG.out
              try go_wp2
              refine bodyPost_ret (lS rfl _ _ iG 55 #[.int .u8 0,.int .u8 0,.int .u8 0,.int .u8 0,.int .i64 0] (0,0) _ rfl (by (with_reducible repeat (first|refine au ?_ _|refine ay ?_|refine ak ?_ _));refine dL (cs:=#[.int .u8 0,.int .u8 0,.int .u8 0,.int .u8 0,.int .i64 eP]) ?_ 4 _ rfl;(with_reducible repeat (first|refine au ?_ _|refine ay ?_|refine ak ?_ _));refine dL (cs:=#[.int .u8 0,.int .u8 0,.int .u8 0,.int .u8 fD,.int .i64 eP]) ?_ 3 _ rfl;(with_reducible repeat (first|refine au ?_ _|refine ay ?_|refine ak ?_ _));refine dL (cs:=#[.int .u8 0,.int .u8 0,.int .u8 fM,.int .u8 fD,.int .i64 eP]) ?_ 2 _ rfl;(with_reducible repeat (first|refine au ?_ _|refine ay ?_|refine ak ?_ _));refine dL (cs:=#[.int .u8 0,.int .u8 fZ,.int .u8 fM,.int .u8 fD,.int .i64 eP]) ?_ 1 _ rfl;(with_reducible repeat (first|refine au ?_ _|refine ay ?_|refine ak ?_ _));refine dL (cs:=#[.int .u8 gu,.int .u8 fZ,.int .u8 fM,.int .u8 fD,.int .i64 eP]) ?_ 0 _ rfl;(with_reducible repeat (first|refine au ?_ _|refine ay ?_|refine ak ?_ _));refine fO ?_ eu.out _;(with_reducible repeat (first|refine au ?_ _|refine ay ?_|refine ak ?_ _));refine fO ?_ eu.out _;(with_reducible repeat (first|refine au ?_ _|refine ay ?_|refine ak ?_ _));refine fO ?_ eu.out _;(with_reducible repeat (first|refine au ?_ _|refine ay ?_|refine ak ?_ _));refine fO ?_ eu.out _;(with_reducible repeat (first|refine au ?_ _|refine ay ?_|refine ak ?_ _));refine fO ?_ eu.out _;(with_reducible repeat (first|refine au ?_ _|refine ay ?_|refine ak ?_ _));exact fG.out) Tryd.underlying55 rfl (by kernel_rfl)) rfl ?_
              exact ⟨by first|rfl|(simp [aQ,aN] <;> rfl)|(simp only [← wI];first|rfl|(simp [aQ,aN] <;> rfl))|(simp [*,aQ,aN] <;> rfl),by repeat (first|(with_reducible first|exact HB.out|apply ah|apply af|apply ai|refine aj ?_ jC.out|refine aj ?_ jw.out|refine aj ?_ lQ.out)|exact HB.out)⟩
            ·
             rw [if_neg c17] at H
             exact absurd H (by simp)
           ·
            rw [if_neg c15] at H
            exact absurd H (by simp)
          ·
           rw [if_neg c14] at H
           exact absurd H (by simp)
         ·
          rw [if_neg c12] at H
          have vJ:decide (mQ < (t112.size:Int))=false:=decide_eq_false c12
          clear c12
          simp only [Option.some.injEq,Prod.mk.injEq] at H
          obtain ⟨rfl,rfl,rfl,rfl,rfl,rfl⟩:=H
          have alC:=rJ.out
          have ak8:=jR.out
          obtain ⟨TZ,TY,TW,TV,TU,Rl,Rk,Rj,Ri,Rh⟩:=jO bV.out
          obtain ⟨TT,TS,TR,TQ,TP,Rf,Q9,Q8,Q7,Q5⟩:=jO fG.out
          go_wp2
          refine bodyPost_ret (lS rfl _ _ iG 55 #[.int .u8 dI,.int .u8 dH,.int .u8 dG,.int .u8 dF,.int .i64 dE] (0,0) _ rfl (by (with_reducible repeat (first|refine au ?_ _|refine ay ?_|refine ak ?_ _));refine dL (cs:=#[.int .u8 dI,.int .u8 dH,.int .u8 dG,.int .u8 dF,.int .i64 eP]) ?_ 4 _ rfl;(with_reducible repeat (first|refine au ?_ _|refine ay ?_|refine ak ?_ _));refine dL (cs:=#[.int .u8 dI,.int .u8 dH,.int .u8 dG,.int .u8 fD,.int .i64 eP]) ?_ 3 _ rfl;(with_reducible repeat (first|refine au ?_ _|refine ay ?_|refine ak ?_ _));refine dL (cs:=#[.int .u8 dI,.int .u8 dH,.int .u8 fM,.int .u8 fD,.int .i64 eP]) ?_ 2 _ rfl;(with_reducible repeat (first|refine au ?_ _|refine ay ?_|refine ak ?_ _));refine dL (cs:=#[.int .u8 dI,.int .u8 fZ,.int .u8 fM,.int .u8 fD,.int .i64 eP]) ?_ 1 _ rfl;(with_reducible repeat (first|refine au ?_ _|refine ay ?_|refine ak ?_ _));refine dL (cs:=#[.int .u8 gu,.int .u8 fZ,.int .u8 fM,.int .u8 fD,.int .i64 eP]) ?_ 0 _ rfl;(with_reducible repeat (first|refine au ?_ _|refine ay ?_|refine ak ?_ _));exact fG.out) Tryd.underlying55 rfl (by kernel_rfl)) rfl ?_
          exact ⟨by first|rfl|(simp [aQ,aN] <;> rfl)|(simp [*,aQ,aN] <;> rfl),by repeat (first|(with_reducible first|exact HB.out|apply ah|apply af|apply ai|refine aj ?_ jC.out|refine aj ?_ jw.out)|exact HB.out)⟩
   ·
    rw [if_neg c3] at H
    have nS:decide (rO≤15)=false:=decide_eq_false c3
    clear c3
    simp only [Option.some.injEq,Prod.mk.injEq] at H
    obtain ⟨rfl,rfl,rfl,rfl,rfl,rfl⟩:=H
    obtain ⟨ahT,ahS,ahR,ahQ,ahP,afD,afC,afB,afA,afz⟩:=jO fG.out
    go_wp2
    refine bodyPost_ret (lS rfl _ _ iG 55 #[.int .u8 0,.int .u8 0,.int .u8 0,.int .u8 0,.int .i64 0] (0,0) _ rfl (by (with_reducible repeat (first|refine au ?_ _|refine ay ?_|refine ak ?_ _));refine dL (cs:=#[.int .u8 0,.int .u8 0,.int .u8 0,.int .u8 0,.int .i64 kU]) ?_ 4 _ rfl;(with_reducible repeat (first|refine au ?_ _|refine ay ?_|refine ak ?_ _));refine dL (cs:=#[.int .u8 0,.int .u8 0,.int .u8 0,.int .u8 lG,.int .i64 kU]) ?_ 3 _ rfl;(with_reducible repeat (first|refine au ?_ _|refine ay ?_|refine ak ?_ _));refine dL (cs:=#[.int .u8 0,.int .u8 0,.int .u8 mf,.int .u8 lG,.int .i64 kU]) ?_ 2 _ rfl;(with_reducible repeat (first|refine au ?_ _|refine ay ?_|refine ak ?_ _));refine dL (cs:=#[.int .u8 0,.int .u8 nz,.int .u8 mf,.int .u8 lG,.int .i64 kU]) ?_ 1 _ rfl;(with_reducible repeat (first|refine au ?_ _|refine ay ?_|refine ak ?_ _));refine dL (cs:=#[.int .u8 nU,.int .u8 nz,.int .u8 mf,.int .u8 lG,.int .i64 kU]) ?_ 0 _ rfl;(with_reducible repeat (first|refine au ?_ _|refine ay ?_|refine ak ?_ _));exact fG.out) Tryd.underlying55 rfl (by kernel_rfl)) rfl ?_
    exact ⟨by first|rfl|(simp [aQ,aN] <;> rfl)|(simp [*,aQ,aN] <;> rfl),by repeat (first|(with_reducible first|exact HB.out|apply ah|apply af|apply ai|refine aj ?_ jC.out)|exact HB.out)⟩
end Go.Proofs.YtlemecdddhdagaaDoor.P
end
