/- Parts of the proof of LeakTrue: what the functions that it reaches compute, and plain facts about that. -/
import Derived.Test.YtgfnpdfhdgenbaaDoorTab
import Derived.Test.YtgfnpdfhdgenbaaDoorTac
import Derived.Test.YtgfnpdfhdgenbaaDoorTai
import Derived.Test.YtgfnpdfhdgenbaaDoorTap
set_option linter.unusedVariables false
set_option linter.unusedSimpArgs false
section
namespace Go.Proofs.YtgfnpdfhdgenbaaDoor.P
open Go.RowKit Go.Proofs.ae.bf Go.Proofs.ae.bY Go.Proofs.ae.cZ
attribute [local go_sem] kU kS mF mD jR jQ kT kR
mutual
def bH.j0:Nat→Int→Bool→List ByteArray→ByteArray→ByteArray→List (gY)→Option (Bool)
 | 0,_,_,_,_,_,_=>none
 | k+1,x1,x16,x200000,PM,PL,BF=>if x16=true then (some false) else ((gJ.f k x200000 PM PL BF).bind fun t200=>(bH.l0 k x1 t200 BF (BF.length:Int) 0))
def bH.l0:Nat→Int→List (List Bool)→List (gY)→Int→Int→Option (Bool)
 | 0,_,_,_,_,_=>none
 | k+1,x1,x5,x20,X8,Ar=>if Ar < X8 then (if 0≤Ar then (if Ar < (x20.length:Int) then (if ((aC x20 Ar).f0)=11 then (if (wrap64 ((aC x20 Ar).f2)) < (x5.length:Int) then (if 0≤((aC x20 Ar).f2) then (if ((aC x20 Ar).f2) < (x5.length:Int) then (if 0≤x1 then (if x1 < ((eQ x5 ((aC x20 Ar).f2)).length:Int) then (if eG false (eQ x5 ((aC x20 Ar).f2)) x1=true then (some true) else (bH.l0 k x1 x5 x20 X8 (wrap64 (Ar+1)))) else (none)) else (none)) else (none)) else (none)) else (bH.l0 k x1 x5 x20 X8 (wrap64 (Ar+1)))) else (if ((aC x20 Ar).f0)=13 then (if (wrap64 ((aC x20 Ar).f2)) < (x5.length:Int) then (if 0≤((aC x20 Ar).f2) then (if ((aC x20 Ar).f2) < (x5.length:Int) then (if 0≤x1 then (if x1 < ((eQ x5 ((aC x20 Ar).f2)).length:Int) then (if eG false (eQ x5 ((aC x20 Ar).f2)) x1=true then (some true) else (bH.l0 k x1 x5 x20 X8 (wrap64 (Ar+1)))) else (none)) else (none)) else (none)) else (none)) else (bH.l0 k x1 x5 x20 X8 (wrap64 (Ar+1)))) else (bH.l0 k x1 x5 x20 X8 (wrap64 (Ar+1))))) else (none)) else (none)) else (some false)
end
def bH.f (k:Nat) (bF:List ByteArray) (aZ:ByteArray) (bn:ByteArray) (aG:List (gY)) (a1:Int):Option (Bool):=if a1 < 0 then (bH.j0 k a1 true bF aZ bn aG) else (bH.j0 k a1 (decide (a1 ≥ (aG.length:Int))) bF aZ bn aG)
theorem bH.iF:∀ k,(∀ y0 y1 y2 y3 y4 y5,eu (bH.j0 k y0 y1 y2 y3 y4 y5) (bH.j0 (k+1) y0 y1 y2 y3 y4 y5))∧(∀ y0 y1 y2 y3 y4,eu (bH.l0 k y0 y1 y2 y3 y4) (bH.l0 (k+1) y0 y1 y2 y3 y4))
 | 0=>⟨fun _ _ _ _ _ _ r h=>by simp [bH.j0] at h,fun _ _ _ _ _ r h=>by simp [bH.l0] at h⟩
 | k+1=>by
  obtain ⟨nI,ih1⟩:=bH.iF k
  refine ⟨?_,?_⟩
  ·
   intro y0 y1 y2 y3 y4 y5
   unfold bH.j0
   repeat' with_reducible first|apply nI|apply ih1|apply gJ.mono|exact eu.refl _|exact eu.none _|refine eu.ite ?_ ?_|refine eu.bind ?_ (fun _=>?_)
  ·
   intro y0 y1 y2 y3 y4
   unfold bH.l0
   repeat' with_reducible first|apply nI|apply ih1|apply gJ.mono|exact eu.refl _|exact eu.none _|refine eu.ite ?_ ?_|refine eu.bind ?_ (fun _=>?_)
theorem bH.mono:∀ a0 a1 a2 a3 a4 k,eu (bH.f k a0 a1 a2 a3 a4) (bH.f (k+1) a0 a1 a2 a3 a4):=by
 intro a0 a1 a2 a3 a4 k
 obtain ⟨nI,ih1⟩:=bH.iF k
 unfold bH.f
 repeat' with_reducible first|apply nI|apply ih1|apply gJ.mono|exact eu.refl _|exact eu.none _|refine eu.ite ?_ ?_|refine eu.bind ?_ (fun _=>?_)
set_option maxHeartbeats 8000000 in
set_option maxRecDepth 100000 in
theorem bH.calls (k:Nat) (fA:Option Addr) (eY:Nat) (bF:List ByteArray) (aZ:ByteArray) (bn:ByteArray) (gz:Option Addr) (fC:Nat) (aG:List (gY)) (a1:Int) (r:Bool) (w:World) (jX:Kd.C Kd.string w fA bF.length bF) (jZ:bF.length≤eY) (jW:Kd.C uU w gz aG.length aG) (jY:aG.length≤fC) (h:bH.f k bF aZ bn aG a1=some r) :
  Calls Tryd.prog 10 #[.agg #[.slice fA bF.length eY,.string aZ,.string bn,.slice gz aG.length fC],.int .i64 a1] w fun e w'=>e=.returned (.bool r)∧Below w.heap.size w w':=by
 have Ad:=Tryd.underlying25
 have zl:=Tryd.underlying45
 have jk:=af.mk jX
 have jv:=af.mk jZ
 clear jX jZ
 have jL:=af.mk jW
 have lX:=af.mk jY
 clear jW jY
 have HB:=af.mk (Below.refl w.heap.size w)
 have H:(if a1 < 0 then (bH.j0 k a1 true bF aZ bn aG) else (bH.j0 k a1 (decide (a1 ≥ (aG.length:Int))) bF aZ bn aG))=some r:=h
 clear h
 have HC3:=af.mk H
 clear H
 go_enter Tryd.func10,Tryd.ntmps10
 go_upto_region 1 with (first|((with_reducible refine bD (N:=2) rfl ?_);(try (refine iw (by rfl) ?_;dsimp only));refine ed ?hg (N:=2) ?hd (cs:=#[.slice fA bF.length eY,.string aZ,.string bn,.slice gz aG.length fC]) (t:=25) ?hr ?_;(case hd=>rfl);(case hg=>rfl);(case hr=>first|(go_simp;done)|(go_simp;rfl));intro kD hg w4 hbox hb;have dW:=af.mk (bC (by repeat (first|(with_reducible first|exact HB.out|apply aj|apply ag|apply ak)|exact HB.out)) hb);have dV:=af.mk (hbox);have dQ:=af.mk ((by rw [hg];exact (df (by repeat (first|(with_reducible first|exact HB.out|apply aj|apply ag|apply ak)|exact HB.out))):w.heap.size≤kD));have gK:=dQ;clear HB;have HB:=dW;have ig:=dV;have ak2:=dQ;have jM:=gK;clear dW dV dQ gK;clear hb hbox hg))
 (try simp only [Act.put,List.setIfInBounds_toArray,List.set_cons_zero,List.set_cons_succ])
 go_cut [16] (fun v16 wc=>∃ (kq:Nat) (Iw:Bool),v16=.bool Iw∧af (bH.j0 kq a1 Iw bF aZ bn aG=some r)∧af (kq≤k)∧af (wc.heap[kD]? = some (.cells #[(.slice fA bF.length eY),.string aZ,.string bn,(.slice gz aG.length fC)] 25 (0,0)))∧af (Below w.heap.size w wc))
 case first =>
  have H:=HC3.out
  clear HC3
  by_cases c5:a1 < 0
  ·
   rw [if_pos c5] at H
   have qY:decide (a1 < 0)=true:=decide_eq_true c5
   clear c5
   (first|rw [qY]|(simp only [aX,aY];rw [qY])|skip)
   have H':=af.mk H
   clear H
   go_wp2
   go_meet
   case rel=>exact ⟨_,(true),(by first|rfl|(simp;done)|(simp [*];done)),H',⟨by first|omega|exact Nat.le_refl _⟩,⟨by (with_reducible repeat (first|refine ai ?_ _|refine ax ?_|refine ah ?_ _));exact ig.out⟩,⟨by repeat (first|(with_reducible first|exact HB.out|apply aj|apply ag|apply ak|refine ay ?_ jM.out)|exact HB.out)⟩⟩
  ·
   rw [if_neg c5] at H
   have qY:decide (a1 < 0)=false:=decide_eq_false c5
   clear c5
   (first|rw [qY]|(simp only [aX,aY];rw [qY])|skip)
   have H':=af.mk H
   clear H
   obtain ⟨Xf,Xe,Xd,Xc,WV,WU,WT,WS⟩:=lZ ig.out
   go_wp2
   go_meet
   case rel=>exact ⟨_,(decide (a1 ≥ (aG.length:Int))),(by first|rfl|(simp;done)|(simp [*];done)),H',⟨by first|omega|exact Nat.le_refl _⟩,⟨by (with_reducible repeat (first|refine ai ?_ _|refine ax ?_|refine ah ?_ _));exact ig.out⟩,⟨by repeat (first|(with_reducible first|exact HB.out|apply aj|apply ag|apply ak|refine ay ?_ jM.out)|exact HB.out)⟩⟩
 case rest =>
  clear HC3
  obtain ⟨kq,Iw,rfl,HA,HJ2,ig,HB⟩:=hcut
  cases kq with
  | zero=>exact absurd HA.out (by simp [bH.j0])
  | succ Yg =>
   have H:=HA.out
   clear HA
   simp only [bH.j0] at H
   by_cases c7:Iw=true
   ·
    subst c7
    have H1:(some false)=some r:=by rw [if_pos rfl] at H;exact H
    clear H
    have H:=H1
    clear H1
    obtain rfl:=Option.some.inj H
    go_wp2
    go_ret
    exact ⟨by first|rfl|(simp [aU,aT] <;> rfl)|(simp [*,aU,aT] <;> rfl),by repeat (first|(with_reducible first|exact HB.out|apply aj|apply ag|apply ak|refine ay ?_ jM.out)|exact HB.out)⟩
   ·
    replace c7:=Bool.eq_false_iff.mpr c7
    subst c7
    have H1:((gJ.f Yg bF aZ bn aG).bind fun t200=>(bH.l0 Yg a1 t200 aG (aG.length:Int) 0))=some r:=by rw [if_neg (show ¬ (false=true) by decide)] at H;exact H
    clear H
    have H:=H1
    clear H1
    replace H:=Option.bind_eq_some_iff.mp H
    obtain ⟨t200,VN,H⟩:=H
    replace H:(bH.l0 Yg a1 t200 aG (aG.length:Int) 0)=some r:=H
    have A8:=af.mk VN
    clear VN
    have H':=af.mk H
    clear H
    obtain ⟨G9,G8,G7,G6,GM,GL,GK,GI⟩:=lZ ig.out
    go_wp2_with (first|((with_reducible refine bV (f:=8) rfl ?_);refine fU (some 18) rfl rfl Tryd.func8 (by kernel_rfl) rfl #[.agg #[.slice fA bF.length eY,.string aZ,.string bn,.slice gz aG.length fC]] rfl (by (try simp only [List.map_toArray,List.map_cons,List.map_nil]);first|done|rfl|(simp only [List.length_drop,List.length_take];rfl)) ?_;(with_reducible refine (gJ.calls Yg _ _ bF aZ bn _ _ aG t200 _ ?dX ?fB ?jr ?jq A8.out).mono ?_);(case dX=>repeat (first|exact (Kd.bQ jk.out HB.out)|(with_reducible refine Kd.dG ?_ _)|(with_reducible refine Kd.dH ?_ _)|(with_reducible refine Kd.dS ?_)));(case fB=>exact jv.out);(case jr=>repeat (first|exact (Kd.bQ jL.out HB.out)|(with_reducible refine Kd.dG ?_ _)|(with_reducible refine Kd.dH ?_ _)|(with_reducible refine Kd.dS ?_)));(case jq=>exact lX.out);rintro e w10 ⟨v201,rfl,ho0,hb⟩;refine ⟨_,rfl,?_⟩;have dW:=af.mk (Kd.KG ho0 (df (by repeat (first|(with_reducible first|exact HB.out|apply aj|apply ag|apply ak|refine ay ?_ jM.out)|exact HB.out))));have dV:=af.mk (bJ (g:=kD) (o:=.cells #[.slice fA bF.length eY,.string aZ,.string bn,.slice gz aG.length fC] 25 (0,0)) (by (with_reducible repeat (first|refine ai ?_ _|refine ax ?_|refine ah ?_ _));exact ig.out) hb);have dQ:=af.mk (bC (by repeat (first|(with_reducible first|exact HB.out|apply aj|apply ag|apply ak|refine ay ?_ jM.out)|exact HB.out)) hb);clear ig;clear HB;have aal:=dW;have ig:=dV;have HB:=dQ;clear dW dV dQ;(try clear hb);(try clear hb2);(try clear hk);(try clear hi);(try clear ho0);obtain ⟨yE,yD,yC,yB,yu,yt,yl,yj⟩:=lZ ig.out))
    go_loopg [22] Yg (fun kq v22 w'=>∃ (bI:Int),v22=.int .i64 bI∧af (bH.l0 kq a1 t200 aG (aG.length:Int) bI=some r)∧af (kq≤Yg)∧af (Kd.S (Kd.slice 4 Kd.bool) 40 w' w.heap.size (fun _=>True) v201 t200)∧af (w'.heap[kD]? = some (.cells #[(.slice fA bF.length eY),.string aZ,.string bn,(.slice gz aG.length fC)] 25 (0,0)))∧af (Below w.heap.size w w'))
    case atStart=>exact ⟨(0),(by first|rfl|(simp;done)|(simp [*];done)),H',⟨Nat.le_refl _⟩,⟨by (with_reducible repeat (first|apply Kd.jJ|apply Kd.jI|apply Kd.lC));exact aal.out⟩,⟨by (with_reducible repeat (first|refine ai ?_ _|refine ax ?_|refine ah ?_ _));exact ig.out⟩,⟨by repeat (first|(with_reducible first|exact HB.out|apply aj|apply ag|apply ak|refine ay ?_ jM.out)|exact HB.out)⟩⟩
    case round =>
     clear H'
     obtain ⟨bI,rfl,HA,sJ,iG,ig,HB⟩:=hrel
     cases gk with
     | zero=>exact absurd HA.out (by simp [bH.l0])
     | succ k2 =>
      have H:=HA.out
      clear HA
      simp only [bH.l0] at H
      by_cases c12:bI < (aG.length:Int)
      ·
       rw [if_pos c12] at H
       have vZ:decide (bI < (aG.length:Int))=true:=decide_eq_true c12
       clear c12
       by_cases c13:0≤bI
       ·
        rw [if_pos c13] at H
        have oH:decide (0≤bI)=true:=decide_eq_true c13
        clear c13
        by_cases c14:bI < (aG.length:Int)
        ·
         rw [if_pos c14] at H
         have OE:decide (bI < (aG.length:Int))=true:=decide_eq_true c14
         clear c14
         by_cases c15:((aC aG bI).f0)=11
         ·
          rw [if_pos c15] at H
          have pW:(((aC aG bI).f0) == 11)=true:=beq_iff_eq.mpr c15
          have zG:(((aC aG bI).f0) != 11)=false:=bne_eq_false_iff_eq.mpr c15
          clear c15
          by_cases c16:(wrap64 ((aC aG bI).f2)) < (t200.length:Int)
          ·
           rw [if_pos c16] at H
           have EZ:decide ((wrap64 ((aC aG bI).f2)) < (t200.length:Int))=true:=decide_eq_true c16
           clear c16
           by_cases c17:0≤((aC aG bI).f2)
           ·
            rw [if_pos c17] at H
            have xB:decide (0≤((aC aG bI).f2))=true:=decide_eq_true c17
            clear c17
            by_cases c18:((aC aG bI).f2) < (t200.length:Int)
            ·
             rw [if_pos c18] at H
             have Vq:decide (((aC aG bI).f2) < (t200.length:Int))=true:=decide_eq_true c18
             clear c18
             by_cases c19:0≤a1
             ·
              rw [if_pos c19] at H
              have zF:decide (0≤a1)=true:=decide_eq_true c19
              clear c19
              by_cases c20:a1 < ((eQ t200 ((aC aG bI).f2)).length:Int)
              ·
               rw [if_pos c20] at H
               have KE:decide (a1 < ((eQ t200 ((aC aG bI).f2)).length:Int))=true:=decide_eq_true c20
               clear c20
               obtain ⟨ZP,N8⟩:∃ b_:Bool,b_=(eG false (eQ t200 ((aC aG bI).f2)) a1):=⟨_,rfl⟩
               replace H:(if ZP=true then (some true) else (bH.l0 k2 a1 t200 aG (aG.length:Int) (wrap64 (bI+1))))=some r:=by rw [← N8] at H;exact H
               have VB:=af.mk N8
               clear N8
               by_cases Bo:ZP=true
               ·
                subst Bo
                have H1:(some true)=some r:=by rw [if_pos rfl] at H;exact H
                clear H
                have H:=H1
                clear H1
                obtain rfl:=Option.some.inj H
                have oL:0≤(bI:Int):=of_decide_eq_true (by first|(with_reducible assumption)|assumption)
                have oK:bI < (aG.length:Int):=of_decide_eq_true (by first|(with_reducible assumption)|assumption)
                obtain ⟨lW,e203,iP,iO,iM,iL,iK⟩:=oP jL.out bI oL oK
                cases e203
                replace iP:=(HB.out.cell (World.block_lt_of_cell? w _ iP)).trans iP
                replace iO:=(HB.out.cell (World.block_lt_of_cell? w _ iO)).trans iO
                replace iM:=(HB.out.cell (World.block_lt_of_cell? w _ iM)).trans iM
                replace iL:=(HB.out.cell (World.block_lt_of_cell? w _ iL)).trans iL
                replace iK:=(HB.out.cell (World.block_lt_of_cell? w _ iK)).trans iK
                replace oL:=eq_true oL
                replace oK:=eq_true oK
                go_wp2_with (first|((with_reducible refine bD (N:=7) rfl ?_);(try (refine iw (by rfl) ?_;dsimp only));refine ed ?hg (N:=7) ?hd (cs:=#[.int .u8 0,.int .u8 0,.int .u8 0,.int .u8 0,.int .i64 0]) (t:=45) ?hr ?_;(case hd=>rfl);(case hg=>rfl);(case hr=>first|(go_simp;done)|(go_simp;rfl));intro fJ hg Yd hbox hb;have dW:=af.mk (Kd.mX (by (with_reducible repeat (first|apply Kd.jJ|apply Kd.jI|apply Kd.lC));exact iG.out) hb);have dV:=af.mk (bJ (g:=kD) (o:=.cells #[.slice fA bF.length eY,.string aZ,.string bn,.slice (some lW) aG.length fC] 25 (0,0)) (by (with_reducible repeat (first|refine ai ?_ _|refine ax ?_|refine ah ?_ _));exact ig.out) hb);have dQ:=af.mk (bC (by repeat (first|(with_reducible first|exact HB.out|apply aj|apply ag|apply ak|refine ay ?_ jM.out)|exact HB.out)) hb);have gK:=af.mk (hbox);have jT:=af.mk ((by rw [hg];exact (df (by repeat (first|(with_reducible first|exact HB.out|apply aj|apply ag|apply ak|refine ay ?_ jM.out)|exact HB.out))):w.heap.size≤fJ));have lL:=jT;have kQ:=af.mk ((by rw [hg];exact Nat.ne_of_lt (iC (g:=kD) (o:=.cells #[.slice fA bF.length eY,.string aZ,.string bn,.slice (some lW) aG.length fC] 25 (0,0)) (by (with_reducible repeat (first|refine ai ?_ _|refine ax ?_|refine ah ?_ _));exact ig.out)):kD ≠ fJ));have o9:=af.mk kQ.out.symm;clear iG;clear ig;clear HB;have iG:=dW;have ig:=dV;have HB:=dQ;have jA:=gK;have Bz:=jT;have pI:=lL;have dL:=kQ;have jS:=o9;clear dW dV dQ gK jT lL kQ o9;clear hb hbox hg;have UU:=jS.out;have UQ:=dL.out;obtain ⟨Dy,Dx,Dw,Dv,Du,Dh,Df,Dc,C9,CZ⟩:=iV jA.out)|((with_reducible refine rW (t:=45) (p:=7) rfl ?_);refine qA (t:=45) (p:=7) (v:=?agJ) (w1:=(((((Yd.setCell ⟨fJ,0,none⟩ (.int .u8 ((aC aG bI).f0))).setCell ⟨fJ,1,none⟩ (.int .u8 ((aC aG bI).f1))).setCell ⟨fJ,2,none⟩ (.int .u8 ((aC aG bI).f2))).setCell ⟨fJ,3,none⟩ (.int .u8 ((aC aG bI).f3))).setCell ⟨fJ,4,none⟩ (.int .i64 ((aC aG bI).f4)))) ?hg ?ho ?hn ?hr ?_;(case ho=>rfl);(case hg=>rfl);(case hn=>rfl);(case hr=>first|(go_simp;done)|(go_simp;rfl));intro Yv hw;have dW:af (Kd.S (Kd.slice 4 Kd.bool) 40 Yv w.heap.size (fun _=>True) v201 t200):=⟨(by rw [hw];exact (by (with_reducible repeat (first|apply Kd.jJ|apply Kd.jI|apply Kd.lC));exact Kd.tX (Kd.jE (p:=⟨fJ,4,none⟩) (Kd.jE (p:=⟨fJ,3,none⟩) (Kd.jE (p:=⟨fJ,2,none⟩) (Kd.jE (p:=⟨fJ,1,none⟩) (Kd.jE (p:=⟨fJ,0,none⟩) (Kd.rX iG.out jA.out (by decide)) (fun _ hk=>hk.2) (.int .u8 ((aC aG bI).f0))) (fun _ hk=>hk.2) (.int .u8 ((aC aG bI).f1))) (fun _ hk=>hk.2) (.int .u8 ((aC aG bI).f2))) (fun _ hk=>hk.2) (.int .u8 ((aC aG bI).f3))) (fun _ hk=>hk.2) (.int .i64 ((aC aG bI).f4))) (fun _ hk=>trivial)))⟩;have dV:af (Yv.heap[kD]? = some (.cells #[.slice fA bF.length eY,.string aZ,.string bn,.slice (some lW) aG.length fC] 25 (0,0))):=⟨(by rw [hw];exact (by (with_reducible repeat (first|refine ai ?_ _|refine ax ?_|refine ah ?_ _));refine dD ?_ dL.out _;(with_reducible repeat (first|refine ai ?_ _|refine ax ?_|refine ah ?_ _));refine dD ?_ dL.out _;(with_reducible repeat (first|refine ai ?_ _|refine ax ?_|refine ah ?_ _));refine dD ?_ dL.out _;(with_reducible repeat (first|refine ai ?_ _|refine ax ?_|refine ah ?_ _));refine dD ?_ dL.out _;(with_reducible repeat (first|refine ai ?_ _|refine ax ?_|refine ah ?_ _));refine dD ?_ dL.out _;(with_reducible repeat (first|refine ai ?_ _|refine ax ?_|refine ah ?_ _));exact ig.out))⟩;have dQ:af (Yv.heap[fJ]? = some (.cells #[.int .u8 ((aC aG bI).f0),.int .u8 ((aC aG bI).f1),.int .u8 ((aC aG bI).f2),.int .u8 ((aC aG bI).f3),.int .i64 ((aC aG bI).f4)] 45 (0,0))):=⟨(by rw [hw];exact (by (with_reducible repeat (first|refine ai ?_ _|refine ax ?_|refine ah ?_ _));refine dh (cs:=#[.int .u8 ((aC aG bI).f0),.int .u8 ((aC aG bI).f1),.int .u8 ((aC aG bI).f2),.int .u8 ((aC aG bI).f3),.int .i64 0]) ?_ 4 _ rfl;(with_reducible repeat (first|refine ai ?_ _|refine ax ?_|refine ah ?_ _));refine dh (cs:=#[.int .u8 ((aC aG bI).f0),.int .u8 ((aC aG bI).f1),.int .u8 ((aC aG bI).f2),.int .u8 0,.int .i64 0]) ?_ 3 _ rfl;(with_reducible repeat (first|refine ai ?_ _|refine ax ?_|refine ah ?_ _));refine dh (cs:=#[.int .u8 ((aC aG bI).f0),.int .u8 ((aC aG bI).f1),.int .u8 0,.int .u8 0,.int .i64 0]) ?_ 2 _ rfl;(with_reducible repeat (first|refine ai ?_ _|refine ax ?_|refine ah ?_ _));refine dh (cs:=#[.int .u8 ((aC aG bI).f0),.int .u8 0,.int .u8 0,.int .u8 0,.int .i64 0]) ?_ 1 _ rfl;(with_reducible repeat (first|refine ai ?_ _|refine ax ?_|refine ah ?_ _));refine dh (cs:=#[.int .u8 0,.int .u8 0,.int .u8 0,.int .u8 0,.int .i64 0]) ?_ 0 _ rfl;(with_reducible repeat (first|refine ai ?_ _|refine ax ?_|refine ah ?_ _));exact jA.out))⟩;have gK:af (Below w.heap.size w Yv):=⟨(by rw [hw];exact (by repeat (first|(with_reducible first|exact HB.out|apply aj|apply ag|apply ak|refine ay ?_ jM.out|refine ay ?_ pI.out)|exact HB.out)))⟩;clear hw;clear iG;clear ig;clear jA;clear HB;have iG:=dW;have ig:=dV;have jA:=dQ;have HB:=gK;clear dW dV dQ gK;obtain ⟨Tn,Tm,Tj,Ti,Tf,Rl,Rk,Rj,Ri,Rh⟩:=iV jA.out;obtain ⟨anG,amH,ahz⟩:=Kd.rY iG.out;subst ahz;have BU:0≤(((aC aG bI).f2):Int):=of_decide_eq_true (by first|(with_reducible assumption)|assumption);have BO:((aC aG bI).f2) < (t200.length:Int):=of_decide_eq_true (by first|(with_reducible assumption)|assumption);obtain ⟨ZZ,X7,XH,Xw,CE,vH,vK⟩:=zJ (Kd.kE iG.out).2.2 ((aC aG bI).f2) BU BO;cases Xw;obtain ⟨Zp,Ht,Hw,zq⟩:=Kd.zK iG.out [] ((aC aG bI).f2) BU (by first|exact BO|exact of_decide_eq_true (by first|(with_reducible assumption)|assumption)|(have e_:=(Kd.kE iG.out).1;omega));obtain ⟨PW,rfl,rV⟩:=Hw;have nU:=zq 0 _ rfl;rw [Nat.add_zero,show ((Kd.slice 4 Kd.bool)).sz=1 from rfl,Nat.mul_one] at nU;replace nU:=Option.some.inj (nU.symm.trans CE);rw [nU] at rV;have Ut:=af.mk (show Kd.R Kd.bool 4 _ _ _ _ (eQ t200 ((aC aG bI).f2)) from rV);clear nU rV;clear zq Ht;have wE:=af.mk vK;have Ux:=af.mk vH;clear vK vH;replace BU:=eq_true BU;replace BO:=eq_true BO;have Gp:0≤(a1:Int):=of_decide_eq_true (by first|(with_reducible assumption)|assumption);have F9:a1 < ((eQ t200 ((aC aG bI).f2)).length:Int):=of_decide_eq_true (by first|(with_reducible assumption)|assumption);obtain ⟨ZY,e206,CB⟩:=Kd.um (by repeat (first|(with_reducible exact wE.out)|(with_reducible refine Kd.dG ?_ _)|(with_reducible refine Kd.dH ?_ _)|(with_reducible refine Kd.dS ?_)|exact wE.out)) a1 Gp F9;(try rw [← VB.out] at CB);cases e206;replace Gp:=eq_true Gp;replace F9:=eq_true F9))
                go_ret
                exact ⟨by first|rfl|(simp [aU,aT] <;> rfl)|(simp [*,aU,aT] <;> rfl),by repeat (first|(with_reducible first|exact HB.out|apply aj|apply ag|apply ak|refine ay ?_ jM.out|refine ay ?_ pI.out)|exact HB.out)⟩
               ·
                replace Bo:=Bool.eq_false_iff.mpr Bo
                subst Bo
                have H1:(bH.l0 k2 a1 t200 aG (aG.length:Int) (wrap64 (bI+1)))=some r:=by rw [if_neg (show ¬ (false=true) by decide)] at H;exact H
                clear H
                have H:=H1
                clear H1
                have H':=af.mk H
                clear H
                have oL:0≤(bI:Int):=of_decide_eq_true (by first|(with_reducible assumption)|assumption)
                have oK:bI < (aG.length:Int):=of_decide_eq_true (by first|(with_reducible assumption)|assumption)
                obtain ⟨lW,e203,iP,iO,iM,iL,iK⟩:=oP jL.out bI oL oK
                cases e203
                replace iP:=(HB.out.cell (World.block_lt_of_cell? w _ iP)).trans iP
                replace iO:=(HB.out.cell (World.block_lt_of_cell? w _ iO)).trans iO
                replace iM:=(HB.out.cell (World.block_lt_of_cell? w _ iM)).trans iM
                replace iL:=(HB.out.cell (World.block_lt_of_cell? w _ iL)).trans iL
                replace iK:=(HB.out.cell (World.block_lt_of_cell? w _ iK)).trans iK
                replace oL:=eq_true oL
                replace oK:=eq_true oK
                go_wp2_with (first|((with_reducible refine bD (N:=7) rfl ?_);(try (refine iw (by rfl) ?_;dsimp only));refine ed ?hg (N:=7) ?hd (cs:=#[.int .u8 0,.int .u8 0,.int .u8 0,.int .u8 0,.int .i64 0]) (t:=45) ?hr ?_;(case hd=>rfl);(case hg=>rfl);(case hr=>first|(go_simp;done)|(go_simp;rfl));intro fJ hg w29 hbox hb;have dW:=af.mk (Kd.mX (by (with_reducible repeat (first|apply Kd.jJ|apply Kd.jI|apply Kd.lC));exact iG.out) hb);have dV:=af.mk (bJ (g:=kD) (o:=.cells #[.slice fA bF.length eY,.string aZ,.string bn,.slice (some lW) aG.length fC] 25 (0,0)) (by (with_reducible repeat (first|refine ai ?_ _|refine ax ?_|refine ah ?_ _));exact ig.out) hb);have dQ:=af.mk (bC (by repeat (first|(with_reducible first|exact HB.out|apply aj|apply ag|apply ak|refine ay ?_ jM.out)|exact HB.out)) hb);have gK:=af.mk (hbox);have jT:=af.mk ((by rw [hg];exact (df (by repeat (first|(with_reducible first|exact HB.out|apply aj|apply ag|apply ak|refine ay ?_ jM.out)|exact HB.out))):w.heap.size≤fJ));have lL:=jT;have kQ:=af.mk ((by rw [hg];exact Nat.ne_of_lt (iC (g:=kD) (o:=.cells #[.slice fA bF.length eY,.string aZ,.string bn,.slice (some lW) aG.length fC] 25 (0,0)) (by (with_reducible repeat (first|refine ai ?_ _|refine ax ?_|refine ah ?_ _));exact ig.out)):kD ≠ fJ));have o9:=af.mk kQ.out.symm;clear iG;clear ig;clear HB;have iG:=dW;have ig:=dV;have HB:=dQ;have jA:=gK;have Bz:=jT;have pI:=lL;have dL:=kQ;have jS:=o9;clear dW dV dQ gK jT lL kQ o9;clear hb hbox hg;have ajD:=jS.out;have ajg:=dL.out;obtain ⟨afB,afA,afz,afy,afx,adA,adz,ady,adx,adw⟩:=iV jA.out)|((with_reducible refine rW (t:=45) (p:=7) rfl ?_);refine qA (t:=45) (p:=7) (v:=?agI) (w1:=(((((w29.setCell ⟨fJ,0,none⟩ (.int .u8 ((aC aG bI).f0))).setCell ⟨fJ,1,none⟩ (.int .u8 ((aC aG bI).f1))).setCell ⟨fJ,2,none⟩ (.int .u8 ((aC aG bI).f2))).setCell ⟨fJ,3,none⟩ (.int .u8 ((aC aG bI).f3))).setCell ⟨fJ,4,none⟩ (.int .i64 ((aC aG bI).f4)))) ?hg ?ho ?hn ?hr ?_;(case ho=>rfl);(case hg=>rfl);(case hn=>rfl);(case hr=>first|(go_simp;done)|(go_simp;rfl));intro w32 hw;have dW:af (Kd.S (Kd.slice 4 Kd.bool) 40 w32 w.heap.size (fun _=>True) v201 t200):=⟨(by rw [hw];exact (by (with_reducible repeat (first|apply Kd.jJ|apply Kd.jI|apply Kd.lC));exact Kd.tX (Kd.jE (p:=⟨fJ,4,none⟩) (Kd.jE (p:=⟨fJ,3,none⟩) (Kd.jE (p:=⟨fJ,2,none⟩) (Kd.jE (p:=⟨fJ,1,none⟩) (Kd.jE (p:=⟨fJ,0,none⟩) (Kd.rX iG.out jA.out (by decide)) (fun _ hk=>hk.2) (.int .u8 ((aC aG bI).f0))) (fun _ hk=>hk.2) (.int .u8 ((aC aG bI).f1))) (fun _ hk=>hk.2) (.int .u8 ((aC aG bI).f2))) (fun _ hk=>hk.2) (.int .u8 ((aC aG bI).f3))) (fun _ hk=>hk.2) (.int .i64 ((aC aG bI).f4))) (fun _ hk=>trivial)))⟩;have dV:af (w32.heap[kD]? = some (.cells #[.slice fA bF.length eY,.string aZ,.string bn,.slice (some lW) aG.length fC] 25 (0,0))):=⟨(by rw [hw];exact (by (with_reducible repeat (first|refine ai ?_ _|refine ax ?_|refine ah ?_ _));refine dD ?_ dL.out _;(with_reducible repeat (first|refine ai ?_ _|refine ax ?_|refine ah ?_ _));refine dD ?_ dL.out _;(with_reducible repeat (first|refine ai ?_ _|refine ax ?_|refine ah ?_ _));refine dD ?_ dL.out _;(with_reducible repeat (first|refine ai ?_ _|refine ax ?_|refine ah ?_ _));refine dD ?_ dL.out _;(with_reducible repeat (first|refine ai ?_ _|refine ax ?_|refine ah ?_ _));refine dD ?_ dL.out _;(with_reducible repeat (first|refine ai ?_ _|refine ax ?_|refine ah ?_ _));exact ig.out))⟩;have dQ:af (w32.heap[fJ]? = some (.cells #[.int .u8 ((aC aG bI).f0),.int .u8 ((aC aG bI).f1),.int .u8 ((aC aG bI).f2),.int .u8 ((aC aG bI).f3),.int .i64 ((aC aG bI).f4)] 45 (0,0))):=⟨(by rw [hw];exact (by (with_reducible repeat (first|refine ai ?_ _|refine ax ?_|refine ah ?_ _));refine dh (cs:=#[.int .u8 ((aC aG bI).f0),.int .u8 ((aC aG bI).f1),.int .u8 ((aC aG bI).f2),.int .u8 ((aC aG bI).f3),.int .i64 0]) ?_ 4 _ rfl;(with_reducible repeat (first|refine ai ?_ _|refine ax ?_|refine ah ?_ _));refine dh (cs:=#[.int .u8 ((aC aG bI).f0),.int .u8 ((aC aG bI).f1),.int .u8 ((aC aG bI).f2),.int .u8 0,.int .i64 0]) ?_ 3 _ rfl;(with_reducible repeat (first|refine ai ?_ _|refine ax ?_|refine ah ?_ _));refine dh (cs:=#[.int .u8 ((aC aG bI).f0),.int .u8 ((aC aG bI).f1),.int .u8 0,.int .u8 0,.int .i64 0]) ?_ 2 _ rfl;(with_reducible repeat (first|refine ai ?_ _|refine ax ?_|refine ah ?_ _));refine dh (cs:=#[.int .u8 ((aC aG bI).f0),.int .u8 0,.int .u8 0,.int .u8 0,.int .i64 0]) ?_ 1 _ rfl;(with_reducible repeat (first|refine ai ?_ _|refine ax ?_|refine ah ?_ _));refine dh (cs:=#[.int .u8 0,.int .u8 0,.int .u8 0,.int .u8 0,.int .i64 0]) ?_ 0 _ rfl;(with_reducible repeat (first|refine ai ?_ _|refine ax ?_|refine ah ?_ _));exact jA.out))⟩;have gK:af (Below w.heap.size w w32):=⟨(by rw [hw];exact (by repeat (first|(with_reducible first|exact HB.out|apply aj|apply ag|apply ak|refine ay ?_ jM.out|refine ay ?_ pI.out)|exact HB.out)))⟩;clear hw;clear iG;clear ig;clear jA;clear HB;have iG:=dW;have ig:=dV;have jA:=dQ;have HB:=gK;clear dW dV dQ gK;obtain ⟨J4,J3,JZ,JY,Tc,Jz,Jy,Jw,Jv,Q9⟩:=iV jA.out;obtain ⟨anF,amG,ahw⟩:=Kd.rY iG.out;subst ahw;have BU:0≤(((aC aG bI).f2):Int):=of_decide_eq_true (by first|(with_reducible assumption)|assumption);have BO:((aC aG bI).f2) < (t200.length:Int):=of_decide_eq_true (by first|(with_reducible assumption)|assumption);obtain ⟨ZZ,X7,XH,Xw,CE,vH,vK⟩:=zJ (Kd.kE iG.out).2.2 ((aC aG bI).f2) BU BO;cases Xw;obtain ⟨Zp,Ht,Hw,zq⟩:=Kd.zK iG.out [] ((aC aG bI).f2) BU (by first|exact BO|exact of_decide_eq_true (by first|(with_reducible assumption)|assumption)|(have e_:=(Kd.kE iG.out).1;omega));obtain ⟨PW,rfl,rV⟩:=Hw;have nU:=zq 0 _ rfl;rw [Nat.add_zero,show ((Kd.slice 4 Kd.bool)).sz=1 from rfl,Nat.mul_one] at nU;replace nU:=Option.some.inj (nU.symm.trans CE);rw [nU] at rV;have Ut:=af.mk (show Kd.R Kd.bool 4 _ _ _ _ (eQ t200 ((aC aG bI).f2)) from rV);clear nU rV;clear zq Ht;have wE:=af.mk vK;have Ux:=af.mk vH;clear vK vH;replace BU:=eq_true BU;replace BO:=eq_true BO;have Gp:0≤(a1:Int):=of_decide_eq_true (by first|(with_reducible assumption)|assumption);have F9:a1 < ((eQ t200 ((aC aG bI).f2)).length:Int):=of_decide_eq_true (by first|(with_reducible assumption)|assumption);obtain ⟨ZY,e206,CB⟩:=Kd.um (by repeat (first|(with_reducible exact wE.out)|(with_reducible refine Kd.dG ?_ _)|(with_reducible refine Kd.dH ?_ _)|(with_reducible refine Kd.dS ?_)|exact wE.out)) a1 Gp F9;(try rw [← VB.out] at CB);cases e206;replace Gp:=eq_true Gp;replace F9:=eq_true F9))
                go_roundg k2
                case measure=>have:=HJ2.out;have:=sJ.out;omega
                case rel=>exact ⟨(wrap64 (bI+1)),(by first|rfl|(simp;done)|(simp [*];done)),H',⟨by have:=HJ2.out;have:=sJ.out;omega⟩,⟨by (with_reducible repeat (first|apply Kd.jJ|apply Kd.jI|apply Kd.lC));exact iG.out⟩,⟨by (with_reducible repeat (first|refine ai ?_ _|refine ax ?_|refine ah ?_ _));exact ig.out⟩,⟨by repeat (first|(with_reducible first|exact HB.out|apply aj|apply ag|apply ak|refine ay ?_ jM.out|refine ay ?_ pI.out)|exact HB.out)⟩⟩
              ·
               rw [if_neg c20] at H
               exact absurd H (by simp)
             ·
              rw [if_neg c19] at H
              exact absurd H (by simp)
            ·
             rw [if_neg c18] at H
             exact absurd H (by simp)
           ·
            rw [if_neg c17] at H
            exact absurd H (by simp)
          ·
           rw [if_neg c16] at H
           have EZ:decide ((wrap64 ((aC aG bI).f2)) < (t200.length:Int))=false:=decide_eq_false c16
           clear c16
           have H':=af.mk H
           clear H
           have oL:0≤(bI:Int):=of_decide_eq_true (by first|(with_reducible assumption)|assumption)
           have oK:bI < (aG.length:Int):=of_decide_eq_true (by first|(with_reducible assumption)|assumption)
           obtain ⟨lW,e203,iP,iO,iM,iL,iK⟩:=oP jL.out bI oL oK
           cases e203
           replace iP:=(HB.out.cell (World.block_lt_of_cell? w _ iP)).trans iP
           replace iO:=(HB.out.cell (World.block_lt_of_cell? w _ iO)).trans iO
           replace iM:=(HB.out.cell (World.block_lt_of_cell? w _ iM)).trans iM
           replace iL:=(HB.out.cell (World.block_lt_of_cell? w _ iL)).trans iL
           replace iK:=(HB.out.cell (World.block_lt_of_cell? w _ iK)).trans iK
           replace oL:=eq_true oL
           replace oK:=eq_true oK
           go_wp2_with (first|((with_reducible refine bD (N:=7) rfl ?_);(try (refine iw (by rfl) ?_;dsimp only));refine ed ?hg (N:=7) ?hd (cs:=#[.int .u8 0,.int .u8 0,.int .u8 0,.int .u8 0,.int .i64 0]) (t:=45) ?hr ?_;(case hd=>rfl);(case hg=>rfl);(case hr=>first|(go_simp;done)|(go_simp;rfl));intro fJ hg w35 hbox hb;have dW:=af.mk (Kd.mX (by (with_reducible repeat (first|apply Kd.jJ|apply Kd.jI|apply Kd.lC));exact iG.out) hb);have dV:=af.mk (bJ (g:=kD) (o:=.cells #[.slice fA bF.length eY,.string aZ,.string bn,.slice (some lW) aG.length fC] 25 (0,0)) (by (with_reducible repeat (first|refine ai ?_ _|refine ax ?_|refine ah ?_ _));exact ig.out) hb);have dQ:=af.mk (bC (by repeat (first|(with_reducible first|exact HB.out|apply aj|apply ag|apply ak|refine ay ?_ jM.out)|exact HB.out)) hb);have gK:=af.mk (hbox);have jT:=af.mk ((by rw [hg];exact (df (by repeat (first|(with_reducible first|exact HB.out|apply aj|apply ag|apply ak|refine ay ?_ jM.out)|exact HB.out))):w.heap.size≤fJ));have lL:=jT;have kQ:=af.mk ((by rw [hg];exact Nat.ne_of_lt (iC (g:=kD) (o:=.cells #[.slice fA bF.length eY,.string aZ,.string bn,.slice (some lW) aG.length fC] 25 (0,0)) (by (with_reducible repeat (first|refine ai ?_ _|refine ax ?_|refine ah ?_ _));exact ig.out)):kD ≠ fJ));have o9:=af.mk kQ.out.symm;clear iG;clear ig;clear HB;have iG:=dW;have ig:=dV;have HB:=dQ;have jA:=gK;have Bz:=jT;have pI:=lL;have dL:=kQ;have jS:=o9;clear dW dV dQ gK jT lL kQ o9;clear hb hbox hg;have ajA:=jS.out;have ajd:=dL.out;obtain ⟨SY,SX,SV,SS,afr,Q7,Q5,Q4,Q3,adq⟩:=iV jA.out;obtain ⟨anE,amF,ahv⟩:=Kd.rY iG.out;subst ahv))
           go_roundg k2
           case measure=>have:=HJ2.out;have:=sJ.out;omega
           case rel=>exact ⟨(wrap64 (bI+1)),(by first|rfl|(simp;done)|(simp [*];done)),H',⟨by have:=HJ2.out;have:=sJ.out;omega⟩,⟨by (with_reducible repeat (first|apply Kd.jJ|apply Kd.jI|apply Kd.lC));exact Kd.tX (Kd.jE (p:=⟨fJ,4,none⟩) (Kd.jE (p:=⟨fJ,3,none⟩) (Kd.jE (p:=⟨fJ,2,none⟩) (Kd.jE (p:=⟨fJ,1,none⟩) (Kd.jE (p:=⟨fJ,0,none⟩) (Kd.rX iG.out jA.out (by decide)) (fun _ hk=>hk.2) (.int .u8 ((aC aG bI).f0))) (fun _ hk=>hk.2) (.int .u8 ((aC aG bI).f1))) (fun _ hk=>hk.2) (.int .u8 ((aC aG bI).f2))) (fun _ hk=>hk.2) (.int .u8 ((aC aG bI).f3))) (fun _ hk=>hk.2) (.int .i64 ((aC aG bI).f4))) (fun _ hk=>trivial)⟩,⟨by (with_reducible repeat (first|refine ai ?_ _|refine ax ?_|refine ah ?_ _));refine dD ?_ dL.out _;(with_reducible repeat (first|refine ai ?_ _|refine ax ?_|refine ah ?_ _));refine dD ?_ dL.out _;(with_reducible repeat (first|refine ai ?_ _|refine ax ?_|refine ah ?_ _));refine dD ?_ dL.out _;(with_reducible repeat (first|refine ai ?_ _|refine ax ?_|refine ah ?_ _));refine dD ?_ dL.out _;(with_reducible repeat (first|refine ai ?_ _|refine ax ?_|refine ah ?_ _));refine dD ?_ dL.out _;(with_reducible repeat (first|refine ai ?_ _|refine ax ?_|refine ah ?_ _));exact ig.out⟩,⟨by repeat (first|(with_reducible first|exact HB.out|apply aj|apply ag|apply ak|refine ay ?_ jM.out|refine ay ?_ pI.out)|exact HB.out)⟩⟩
         ·
          rw [if_neg c15] at H
          have pW:(((aC aG bI).f0) == 11)=false:=beq_eq_false_iff_ne.mpr c15
          have zG:(((aC aG bI).f0) != 11)=true:=bne_iff_ne.mpr c15
          by_cases ET:((aC aG bI).f0)=13
          ·
           rw [if_pos ET] at H
           have OC:(((aC aG bI).f0) == 13)=true:=beq_iff_eq.mpr ET
           have Zz:(((aC aG bI).f0) != 13)=false:=bne_eq_false_iff_eq.mpr ET
           clear ET
           by_cases c40:(wrap64 ((aC aG bI).f2)) < (t200.length:Int)
           ·
            rw [if_pos c40] at H
            have Zy:decide ((wrap64 ((aC aG bI).f2)) < (t200.length:Int))=true:=decide_eq_true c40
            clear c40
            by_cases XE:0≤((aC aG bI).f2)
            ·
             rw [if_pos XE] at H
             have akq:decide (0≤((aC aG bI).f2))=true:=decide_eq_true XE
             clear XE
             by_cases XD:((aC aG bI).f2) < (t200.length:Int)
             ·
              rw [if_pos XD] at H
              have akp:decide (((aC aG bI).f2) < (t200.length:Int))=true:=decide_eq_true XD
              clear XD
              by_cases XC:0≤a1
              ·
               rw [if_pos XC] at H
               have ako:decide (0≤a1)=true:=decide_eq_true XC
               clear XC
               by_cases MG:a1 < ((eQ t200 ((aC aG bI).f2)).length:Int)
               ·
                rw [if_pos MG] at H
                have akn:decide (a1 < ((eQ t200 ((aC aG bI).f2)).length:Int))=true:=decide_eq_true MG
                clear MG
                obtain ⟨ZN,NZ⟩:∃ b_:Bool,b_=(eG false (eQ t200 ((aC aG bI).f2)) a1):=⟨_,rfl⟩
                replace H:(if ZN=true then (some true) else (bH.l0 k2 a1 t200 aG (aG.length:Int) (wrap64 (bI+1))))=some r:=by rw [← NZ] at H;exact H
                have VA:=af.mk NZ
                clear NZ
                by_cases c46:ZN=true
                ·
                 subst c46
                 have H1:(some true)=some r:=by rw [if_pos rfl] at H;exact H
                 clear H
                 have H:=H1
                 clear H1
                 obtain rfl:=Option.some.inj H
                 have oL:0≤(bI:Int):=of_decide_eq_true (by first|(with_reducible assumption)|assumption)
                 have oK:bI < (aG.length:Int):=of_decide_eq_true (by first|(with_reducible assumption)|assumption)
                 obtain ⟨lW,e203,iP,iO,iM,iL,iK⟩:=oP jL.out bI oL oK
                 cases e203
                 replace iP:=(HB.out.cell (World.block_lt_of_cell? w _ iP)).trans iP
                 replace iO:=(HB.out.cell (World.block_lt_of_cell? w _ iO)).trans iO
                 replace iM:=(HB.out.cell (World.block_lt_of_cell? w _ iM)).trans iM
                 replace iL:=(HB.out.cell (World.block_lt_of_cell? w _ iL)).trans iL
                 replace iK:=(HB.out.cell (World.block_lt_of_cell? w _ iK)).trans iK
                 replace oL:=eq_true oL
                 replace oK:=eq_true oK
                 go_wp2_with (first|((with_reducible refine bD (N:=7) rfl ?_);(try (refine iw (by rfl) ?_;dsimp only));refine ed ?hg (N:=7) ?hd (cs:=#[.int .u8 0,.int .u8 0,.int .u8 0,.int .u8 0,.int .i64 0]) (t:=45) ?hr ?_;(case hd=>rfl);(case hg=>rfl);(case hr=>first|(go_simp;done)|(go_simp;rfl));intro fJ hg w47 hbox hb;have dW:=af.mk (Kd.mX (by (with_reducible repeat (first|apply Kd.jJ|apply Kd.jI|apply Kd.lC));exact iG.out) hb);have dV:=af.mk (bJ (g:=kD) (o:=.cells #[.slice fA bF.length eY,.string aZ,.string bn,.slice (some lW) aG.length fC] 25 (0,0)) (by (with_reducible repeat (first|refine ai ?_ _|refine ax ?_|refine ah ?_ _));exact ig.out) hb);have dQ:=af.mk (bC (by repeat (first|(with_reducible first|exact HB.out|apply aj|apply ag|apply ak|refine ay ?_ jM.out)|exact HB.out)) hb);have gK:=af.mk (hbox);have jT:=af.mk ((by rw [hg];exact (df (by repeat (first|(with_reducible first|exact HB.out|apply aj|apply ag|apply ak|refine ay ?_ jM.out)|exact HB.out))):w.heap.size≤fJ));have lL:=jT;have kQ:=af.mk ((by rw [hg];exact Nat.ne_of_lt (iC (g:=kD) (o:=.cells #[.slice fA bF.length eY,.string aZ,.string bn,.slice (some lW) aG.length fC] 25 (0,0)) (by (with_reducible repeat (first|refine ai ?_ _|refine ax ?_|refine ah ?_ _));exact ig.out)):kD ≠ fJ));have o9:=af.mk kQ.out.symm;clear iG;clear ig;clear HB;have iG:=dW;have ig:=dV;have HB:=dQ;have jA:=gK;have Bz:=jT;have pI:=lL;have dL:=kQ;have jS:=o9;clear dW dV dQ gK jT lL kQ o9;clear hb hbox hg;have aju:=jS.out;have ai7:=dL.out;obtain ⟨ae6,ae5,ae4,ae3,ae2,ac2,ac1,ac0,acZ,acY⟩:=iV jA.out)|((with_reducible refine rW (t:=45) (p:=7) rfl ?_);refine qA (t:=45) (p:=7) (v:=?agH) (w1:=(((((w47.setCell ⟨fJ,0,none⟩ (.int .u8 ((aC aG bI).f0))).setCell ⟨fJ,1,none⟩ (.int .u8 ((aC aG bI).f1))).setCell ⟨fJ,2,none⟩ (.int .u8 ((aC aG bI).f2))).setCell ⟨fJ,3,none⟩ (.int .u8 ((aC aG bI).f3))).setCell ⟨fJ,4,none⟩ (.int .i64 ((aC aG bI).f4)))) ?hg ?ho ?hn ?hr ?_;(case ho=>rfl);(case hg=>rfl);(case hn=>rfl);(case hr=>first|(go_simp;done)|(go_simp;rfl));intro Yb hw;have dW:af (Kd.S (Kd.slice 4 Kd.bool) 40 Yb w.heap.size (fun _=>True) v201 t200):=⟨(by rw [hw];exact (by (with_reducible repeat (first|apply Kd.jJ|apply Kd.jI|apply Kd.lC));exact Kd.tX (Kd.jE (p:=⟨fJ,4,none⟩) (Kd.jE (p:=⟨fJ,3,none⟩) (Kd.jE (p:=⟨fJ,2,none⟩) (Kd.jE (p:=⟨fJ,1,none⟩) (Kd.jE (p:=⟨fJ,0,none⟩) (Kd.rX iG.out jA.out (by decide)) (fun _ hk=>hk.2) (.int .u8 ((aC aG bI).f0))) (fun _ hk=>hk.2) (.int .u8 ((aC aG bI).f1))) (fun _ hk=>hk.2) (.int .u8 ((aC aG bI).f2))) (fun _ hk=>hk.2) (.int .u8 ((aC aG bI).f3))) (fun _ hk=>hk.2) (.int .i64 ((aC aG bI).f4))) (fun _ hk=>trivial)))⟩;have dV:af (Yb.heap[kD]? = some (.cells #[.slice fA bF.length eY,.string aZ,.string bn,.slice (some lW) aG.length fC] 25 (0,0))):=⟨(by rw [hw];exact (by (with_reducible repeat (first|refine ai ?_ _|refine ax ?_|refine ah ?_ _));refine dD ?_ dL.out _;(with_reducible repeat (first|refine ai ?_ _|refine ax ?_|refine ah ?_ _));refine dD ?_ dL.out _;(with_reducible repeat (first|refine ai ?_ _|refine ax ?_|refine ah ?_ _));refine dD ?_ dL.out _;(with_reducible repeat (first|refine ai ?_ _|refine ax ?_|refine ah ?_ _));refine dD ?_ dL.out _;(with_reducible repeat (first|refine ai ?_ _|refine ax ?_|refine ah ?_ _));refine dD ?_ dL.out _;(with_reducible repeat (first|refine ai ?_ _|refine ax ?_|refine ah ?_ _));exact ig.out))⟩;have dQ:af (Yb.heap[fJ]? = some (.cells #[.int .u8 ((aC aG bI).f0),.int .u8 ((aC aG bI).f1),.int .u8 ((aC aG bI).f2),.int .u8 ((aC aG bI).f3),.int .i64 ((aC aG bI).f4)] 45 (0,0))):=⟨(by rw [hw];exact (by (with_reducible repeat (first|refine ai ?_ _|refine ax ?_|refine ah ?_ _));refine dh (cs:=#[.int .u8 ((aC aG bI).f0),.int .u8 ((aC aG bI).f1),.int .u8 ((aC aG bI).f2),.int .u8 ((aC aG bI).f3),.int .i64 0]) ?_ 4 _ rfl;(with_reducible repeat (first|refine ai ?_ _|refine ax ?_|refine ah ?_ _));refine dh (cs:=#[.int .u8 ((aC aG bI).f0),.int .u8 ((aC aG bI).f1),.int .u8 ((aC aG bI).f2),.int .u8 0,.int .i64 0]) ?_ 3 _ rfl;(with_reducible repeat (first|refine ai ?_ _|refine ax ?_|refine ah ?_ _));refine dh (cs:=#[.int .u8 ((aC aG bI).f0),.int .u8 ((aC aG bI).f1),.int .u8 0,.int .u8 0,.int .i64 0]) ?_ 2 _ rfl;(with_reducible repeat (first|refine ai ?_ _|refine ax ?_|refine ah ?_ _));refine dh (cs:=#[.int .u8 ((aC aG bI).f0),.int .u8 0,.int .u8 0,.int .u8 0,.int .i64 0]) ?_ 1 _ rfl;(with_reducible repeat (first|refine ai ?_ _|refine ax ?_|refine ah ?_ _));refine dh (cs:=#[.int .u8 0,.int .u8 0,.int .u8 0,.int .u8 0,.int .i64 0]) ?_ 0 _ rfl;(with_reducible repeat (first|refine ai ?_ _|refine ax ?_|refine ah ?_ _));exact jA.out))⟩;have gK:af (Below w.heap.size w Yb):=⟨(by rw [hw];exact (by repeat (first|(with_reducible first|exact HB.out|apply aj|apply ag|apply ak|refine ay ?_ jM.out|refine ay ?_ pI.out)|exact HB.out)))⟩;clear hw;clear iG;clear ig;clear jA;clear HB;have iG:=dW;have ig:=dV;have jA:=dQ;have HB:=gK;clear dW dV dQ gK;obtain ⟨SI,SH,SG,SE,aeW,QV,QU,QT,QS,acS⟩:=iV jA.out;obtain ⟨anC,amD,aht⟩:=Kd.rY iG.out;subst aht;have BR:0≤(((aC aG bI).f2):Int):=of_decide_eq_true (by first|(with_reducible assumption)|assumption);have BN:((aC aG bI).f2) < (t200.length:Int):=of_decide_eq_true (by first|(with_reducible assumption)|assumption);obtain ⟨ZX,X6,XG,e207,Cm,vG,vJ⟩:=zJ (Kd.kE iG.out).2.2 ((aC aG bI).f2) BR BN;cases e207;obtain ⟨Zo,Hr,Hu,zo⟩:=Kd.zK iG.out [] ((aC aG bI).f2) BR (by first|exact BN|exact of_decide_eq_true (by first|(with_reducible assumption)|assumption)|(have e_:=(Kd.kE iG.out).1;omega));obtain ⟨PV,rfl,rU⟩:=Hu;have nT:=zo 0 _ rfl;rw [Nat.add_zero,show ((Kd.slice 4 Kd.bool)).sz=1 from rfl,Nat.mul_one] at nT;replace nT:=Option.some.inj (nT.symm.trans Cm);rw [nT] at rU;have Us:=af.mk (show Kd.R Kd.bool 4 _ _ _ _ (eQ t200 ((aC aG bI).f2)) from rU);clear nT rU;clear zo Hr;have wC:=af.mk vJ;have Uw:=af.mk vG;clear vJ vG;replace BR:=eq_true BR;replace BN:=eq_true BN;have Gn:0≤(a1:Int):=of_decide_eq_true (by first|(with_reducible assumption)|assumption);have F8:a1 < ((eQ t200 ((aC aG bI).f2)).length:Int):=of_decide_eq_true (by first|(with_reducible assumption)|assumption);obtain ⟨ZW,e208,Cj⟩:=Kd.um (by repeat (first|(with_reducible exact wC.out)|(with_reducible refine Kd.dG ?_ _)|(with_reducible refine Kd.dH ?_ _)|(with_reducible refine Kd.dS ?_)|exact wC.out)) a1 Gn F8;(try rw [← VA.out] at Cj);cases e208;replace Gn:=eq_true Gn;replace F8:=eq_true F8))
                 go_ret
                 exact ⟨by first|rfl|(simp [aU,aT] <;> rfl)|(simp [*,aU,aT] <;> rfl),by repeat (first|(with_reducible first|exact HB.out|apply aj|apply ag|apply ak|refine ay ?_ jM.out|refine ay ?_ pI.out)|exact HB.out)⟩
                ·
                 replace c46:=Bool.eq_false_iff.mpr c46
                 subst c46
                 have H1:(bH.l0 k2 a1 t200 aG (aG.length:Int) (wrap64 (bI+1)))=some r:=by rw [if_neg (show ¬ (false=true) by decide)] at H;exact H
                 clear H
                 have H:=H1
                 clear H1
                 have H':=af.mk H
                 clear H
                 have oL:0≤(bI:Int):=of_decide_eq_true (by first|(with_reducible assumption)|assumption)
                 have oK:bI < (aG.length:Int):=of_decide_eq_true (by first|(with_reducible assumption)|assumption)
                 obtain ⟨lW,e203,iP,iO,iM,iL,iK⟩:=oP jL.out bI oL oK
                 cases e203
                 replace iP:=(HB.out.cell (World.block_lt_of_cell? w _ iP)).trans iP
                 replace iO:=(HB.out.cell (World.block_lt_of_cell? w _ iO)).trans iO
                 replace iM:=(HB.out.cell (World.block_lt_of_cell? w _ iM)).trans iM
                 replace iL:=(HB.out.cell (World.block_lt_of_cell? w _ iL)).trans iL
                 replace iK:=(HB.out.cell (World.block_lt_of_cell? w _ iK)).trans iK
                 replace oL:=eq_true oL
                 replace oK:=eq_true oK
                 go_wp2_with (first|((with_reducible refine bD (N:=7) rfl ?_);(try (refine iw (by rfl) ?_;dsimp only));refine ed ?hg (N:=7) ?hd (cs:=#[.int .u8 0,.int .u8 0,.int .u8 0,.int .u8 0,.int .i64 0]) (t:=45) ?hr ?_;(case hd=>rfl);(case hg=>rfl);(case hr=>first|(go_simp;done)|(go_simp;rfl));intro fJ hg w53 hbox hb;have dW:=af.mk (Kd.mX (by (with_reducible repeat (first|apply Kd.jJ|apply Kd.jI|apply Kd.lC));exact iG.out) hb);have dV:=af.mk (bJ (g:=kD) (o:=.cells #[.slice fA bF.length eY,.string aZ,.string bn,.slice (some lW) aG.length fC] 25 (0,0)) (by (with_reducible repeat (first|refine ai ?_ _|refine ax ?_|refine ah ?_ _));exact ig.out) hb);have dQ:=af.mk (bC (by repeat (first|(with_reducible first|exact HB.out|apply aj|apply ag|apply ak|refine ay ?_ jM.out)|exact HB.out)) hb);have gK:=af.mk (hbox);have jT:=af.mk ((by rw [hg];exact (df (by repeat (first|(with_reducible first|exact HB.out|apply aj|apply ag|apply ak|refine ay ?_ jM.out)|exact HB.out))):w.heap.size≤fJ));have lL:=jT;have kQ:=af.mk ((by rw [hg];exact Nat.ne_of_lt (iC (g:=kD) (o:=.cells #[.slice fA bF.length eY,.string aZ,.string bn,.slice (some lW) aG.length fC] 25 (0,0)) (by (with_reducible repeat (first|refine ai ?_ _|refine ax ?_|refine ah ?_ _));exact ig.out)):kD ≠ fJ));have o9:=af.mk kQ.out.symm;clear iG;clear ig;clear HB;have iG:=dW;have ig:=dV;have HB:=dQ;have jA:=gK;have Bz:=jT;have pI:=lL;have dL:=kQ;have jS:=o9;clear dW dV dQ gK jT lL kQ o9;clear hb hbox hg;have ajr:=jS.out;have ai4:=dL.out;obtain ⟨aeP,aeO,aeN,aeM,aeL,acL,acK,acJ,acI,acH⟩:=iV jA.out)|((with_reducible refine rW (t:=45) (p:=7) rfl ?_);refine qA (t:=45) (p:=7) (v:=?agG) (w1:=(((((w53.setCell ⟨fJ,0,none⟩ (.int .u8 ((aC aG bI).f0))).setCell ⟨fJ,1,none⟩ (.int .u8 ((aC aG bI).f1))).setCell ⟨fJ,2,none⟩ (.int .u8 ((aC aG bI).f2))).setCell ⟨fJ,3,none⟩ (.int .u8 ((aC aG bI).f3))).setCell ⟨fJ,4,none⟩ (.int .i64 ((aC aG bI).f4)))) ?hg ?ho ?hn ?hr ?_;(case ho=>rfl);(case hg=>rfl);(case hn=>rfl);(case hr=>first|(go_simp;done)|(go_simp;rfl));intro w56 hw;have dW:af (Kd.S (Kd.slice 4 Kd.bool) 40 w56 w.heap.size (fun _=>True) v201 t200):=⟨(by rw [hw];exact (by (with_reducible repeat (first|apply Kd.jJ|apply Kd.jI|apply Kd.lC));exact Kd.tX (Kd.jE (p:=⟨fJ,4,none⟩) (Kd.jE (p:=⟨fJ,3,none⟩) (Kd.jE (p:=⟨fJ,2,none⟩) (Kd.jE (p:=⟨fJ,1,none⟩) (Kd.jE (p:=⟨fJ,0,none⟩) (Kd.rX iG.out jA.out (by decide)) (fun _ hk=>hk.2) (.int .u8 ((aC aG bI).f0))) (fun _ hk=>hk.2) (.int .u8 ((aC aG bI).f1))) (fun _ hk=>hk.2) (.int .u8 ((aC aG bI).f2))) (fun _ hk=>hk.2) (.int .u8 ((aC aG bI).f3))) (fun _ hk=>hk.2) (.int .i64 ((aC aG bI).f4))) (fun _ hk=>trivial)))⟩;have dV:af (w56.heap[kD]? = some (.cells #[.slice fA bF.length eY,.string aZ,.string bn,.slice (some lW) aG.length fC] 25 (0,0))):=⟨(by rw [hw];exact (by (with_reducible repeat (first|refine ai ?_ _|refine ax ?_|refine ah ?_ _));refine dD ?_ dL.out _;(with_reducible repeat (first|refine ai ?_ _|refine ax ?_|refine ah ?_ _));refine dD ?_ dL.out _;(with_reducible repeat (first|refine ai ?_ _|refine ax ?_|refine ah ?_ _));refine dD ?_ dL.out _;(with_reducible repeat (first|refine ai ?_ _|refine ax ?_|refine ah ?_ _));refine dD ?_ dL.out _;(with_reducible repeat (first|refine ai ?_ _|refine ax ?_|refine ah ?_ _));refine dD ?_ dL.out _;(with_reducible repeat (first|refine ai ?_ _|refine ax ?_|refine ah ?_ _));exact ig.out))⟩;have dQ:af (w56.heap[fJ]? = some (.cells #[.int .u8 ((aC aG bI).f0),.int .u8 ((aC aG bI).f1),.int .u8 ((aC aG bI).f2),.int .u8 ((aC aG bI).f3),.int .i64 ((aC aG bI).f4)] 45 (0,0))):=⟨(by rw [hw];exact (by (with_reducible repeat (first|refine ai ?_ _|refine ax ?_|refine ah ?_ _));refine dh (cs:=#[.int .u8 ((aC aG bI).f0),.int .u8 ((aC aG bI).f1),.int .u8 ((aC aG bI).f2),.int .u8 ((aC aG bI).f3),.int .i64 0]) ?_ 4 _ rfl;(with_reducible repeat (first|refine ai ?_ _|refine ax ?_|refine ah ?_ _));refine dh (cs:=#[.int .u8 ((aC aG bI).f0),.int .u8 ((aC aG bI).f1),.int .u8 ((aC aG bI).f2),.int .u8 0,.int .i64 0]) ?_ 3 _ rfl;(with_reducible repeat (first|refine ai ?_ _|refine ax ?_|refine ah ?_ _));refine dh (cs:=#[.int .u8 ((aC aG bI).f0),.int .u8 ((aC aG bI).f1),.int .u8 0,.int .u8 0,.int .i64 0]) ?_ 2 _ rfl;(with_reducible repeat (first|refine ai ?_ _|refine ax ?_|refine ah ?_ _));refine dh (cs:=#[.int .u8 ((aC aG bI).f0),.int .u8 0,.int .u8 0,.int .u8 0,.int .i64 0]) ?_ 1 _ rfl;(with_reducible repeat (first|refine ai ?_ _|refine ax ?_|refine ah ?_ _));refine dh (cs:=#[.int .u8 0,.int .u8 0,.int .u8 0,.int .u8 0,.int .i64 0]) ?_ 0 _ rfl;(with_reducible repeat (first|refine ai ?_ _|refine ax ?_|refine ah ?_ _));exact jA.out))⟩;have gK:af (Below w.heap.size w w56):=⟨(by rw [hw];exact (by repeat (first|(with_reducible first|exact HB.out|apply aj|apply ag|apply ak|refine ay ?_ jM.out|refine ay ?_ pI.out)|exact HB.out)))⟩;clear hw;clear iG;clear ig;clear jA;clear HB;have iG:=dW;have ig:=dV;have jA:=dQ;have HB:=gK;clear dW dV dQ gK;obtain ⟨aeF,aeE,aeD,aeC,aeB,acB,acA,acz,acy,acx⟩:=iV jA.out;obtain ⟨anB,amC,ahs⟩:=Kd.rY iG.out;subst ahs;have BR:0≤(((aC aG bI).f2):Int):=of_decide_eq_true (by first|(with_reducible assumption)|assumption);have BN:((aC aG bI).f2) < (t200.length:Int):=of_decide_eq_true (by first|(with_reducible assumption)|assumption);obtain ⟨ZX,X6,XG,e207,Cm,vG,vJ⟩:=zJ (Kd.kE iG.out).2.2 ((aC aG bI).f2) BR BN;cases e207;obtain ⟨Zo,Hr,Hu,zo⟩:=Kd.zK iG.out [] ((aC aG bI).f2) BR (by first|exact BN|exact of_decide_eq_true (by first|(with_reducible assumption)|assumption)|(have e_:=(Kd.kE iG.out).1;omega));obtain ⟨PV,rfl,rU⟩:=Hu;have nT:=zo 0 _ rfl;rw [Nat.add_zero,show ((Kd.slice 4 Kd.bool)).sz=1 from rfl,Nat.mul_one] at nT;replace nT:=Option.some.inj (nT.symm.trans Cm);rw [nT] at rU;have Us:=af.mk (show Kd.R Kd.bool 4 _ _ _ _ (eQ t200 ((aC aG bI).f2)) from rU);clear nT rU;clear zo Hr;have wC:=af.mk vJ;have Uw:=af.mk vG;clear vJ vG;replace BR:=eq_true BR;replace BN:=eq_true BN;have Gn:0≤(a1:Int):=of_decide_eq_true (by first|(with_reducible assumption)|assumption);have F8:a1 < ((eQ t200 ((aC aG bI).f2)).length:Int):=of_decide_eq_true (by first|(with_reducible assumption)|assumption);obtain ⟨ZW,e208,Cj⟩:=Kd.um (by repeat (first|(with_reducible exact wC.out)|(with_reducible refine Kd.dG ?_ _)|(with_reducible refine Kd.dH ?_ _)|(with_reducible refine Kd.dS ?_)|exact wC.out)) a1 Gn F8;(try rw [← VA.out] at Cj);cases e208;replace Gn:=eq_true Gn;replace F8:=eq_true F8))
                 go_roundg k2
                 case measure=>have:=HJ2.out;have:=sJ.out;omega
                 case rel=>exact ⟨(wrap64 (bI+1)),(by first|rfl|(simp;done)|(simp [*];done)),H',⟨by have:=HJ2.out;have:=sJ.out;omega⟩,⟨by (with_reducible repeat (first|apply Kd.jJ|apply Kd.jI|apply Kd.lC));exact iG.out⟩,⟨by (with_reducible repeat (first|refine ai ?_ _|refine ax ?_|refine ah ?_ _));exact ig.out⟩,⟨by repeat (first|(with_reducible first|exact HB.out|apply aj|apply ag|apply ak|refine ay ?_ jM.out|refine ay ?_ pI.out)|exact HB.out)⟩⟩
               ·
                rw [if_neg MG] at H
                exact absurd H (by simp)
              ·
               rw [if_neg XC] at H
               exact absurd H (by simp)
             ·
              rw [if_neg XD] at H
              exact absurd H (by simp)
            ·
             rw [if_neg XE] at H
             exact absurd H (by simp)
           ·
            rw [if_neg c40] at H
            have Zy:decide ((wrap64 ((aC aG bI).f2)) < (t200.length:Int))=false:=decide_eq_false c40
            clear c40
            have H':=af.mk H
            clear H
            have oL:0≤(bI:Int):=of_decide_eq_true (by first|(with_reducible assumption)|assumption)
            have oK:bI < (aG.length:Int):=of_decide_eq_true (by first|(with_reducible assumption)|assumption)
            obtain ⟨lW,e203,iP,iO,iM,iL,iK⟩:=oP jL.out bI oL oK
            cases e203
            replace iP:=(HB.out.cell (World.block_lt_of_cell? w _ iP)).trans iP
            replace iO:=(HB.out.cell (World.block_lt_of_cell? w _ iO)).trans iO
            replace iM:=(HB.out.cell (World.block_lt_of_cell? w _ iM)).trans iM
            replace iL:=(HB.out.cell (World.block_lt_of_cell? w _ iL)).trans iL
            replace iK:=(HB.out.cell (World.block_lt_of_cell? w _ iK)).trans iK
            replace oL:=eq_true oL
            replace oK:=eq_true oK
            go_wp2_with (first|((with_reducible refine bD (N:=7) rfl ?_);(try (refine iw (by rfl) ?_;dsimp only));refine ed ?hg (N:=7) ?hd (cs:=#[.int .u8 0,.int .u8 0,.int .u8 0,.int .u8 0,.int .i64 0]) (t:=45) ?hr ?_;(case hd=>rfl);(case hg=>rfl);(case hr=>first|(go_simp;done)|(go_simp;rfl));intro fJ hg w59 hbox hb;have dW:=af.mk (Kd.mX (by (with_reducible repeat (first|apply Kd.jJ|apply Kd.jI|apply Kd.lC));exact iG.out) hb);have dV:=af.mk (bJ (g:=kD) (o:=.cells #[.slice fA bF.length eY,.string aZ,.string bn,.slice (some lW) aG.length fC] 25 (0,0)) (by (with_reducible repeat (first|refine ai ?_ _|refine ax ?_|refine ah ?_ _));exact ig.out) hb);have dQ:=af.mk (bC (by repeat (first|(with_reducible first|exact HB.out|apply aj|apply ag|apply ak|refine ay ?_ jM.out)|exact HB.out)) hb);have gK:=af.mk (hbox);have jT:=af.mk ((by rw [hg];exact (df (by repeat (first|(with_reducible first|exact HB.out|apply aj|apply ag|apply ak|refine ay ?_ jM.out)|exact HB.out))):w.heap.size≤fJ));have lL:=jT;have kQ:=af.mk ((by rw [hg];exact Nat.ne_of_lt (iC (g:=kD) (o:=.cells #[.slice fA bF.length eY,.string aZ,.string bn,.slice (some lW) aG.length fC] 25 (0,0)) (by (with_reducible repeat (first|refine ai ?_ _|refine ax ?_|refine ah ?_ _));exact ig.out)):kD ≠ fJ));have o9:=af.mk kQ.out.symm;clear iG;clear ig;clear HB;have iG:=dW;have ig:=dV;have HB:=dQ;have jA:=gK;have Bz:=jT;have pI:=lL;have dL:=kQ;have jS:=o9;clear dW dV dQ gK jT lL kQ o9;clear hb hbox hg;have YY:=jS.out;have YU:=dL.out;obtain ⟨Sl,Sj,Si,RZ,RY,QJ,QI,QH,QG,QF⟩:=iV jA.out;obtain ⟨anA,amB,ahr⟩:=Kd.rY iG.out;subst ahr))
            go_roundg k2
            case measure=>have:=HJ2.out;have:=sJ.out;omega
            case rel=>exact ⟨(wrap64 (bI+1)),(by first|rfl|(simp;done)|(simp [*];done)),H',⟨by have:=HJ2.out;have:=sJ.out;omega⟩,⟨by (with_reducible repeat (first|apply Kd.jJ|apply Kd.jI|apply Kd.lC));exact Kd.tX (Kd.jE (p:=⟨fJ,4,none⟩) (Kd.jE (p:=⟨fJ,3,none⟩) (Kd.jE (p:=⟨fJ,2,none⟩) (Kd.jE (p:=⟨fJ,1,none⟩) (Kd.jE (p:=⟨fJ,0,none⟩) (Kd.rX iG.out jA.out (by decide)) (fun _ hk=>hk.2) (.int .u8 ((aC aG bI).f0))) (fun _ hk=>hk.2) (.int .u8 ((aC aG bI).f1))) (fun _ hk=>hk.2) (.int .u8 ((aC aG bI).f2))) (fun _ hk=>hk.2) (.int .u8 ((aC aG bI).f3))) (fun _ hk=>hk.2) (.int .i64 ((aC aG bI).f4))) (fun _ hk=>trivial)⟩,⟨by (with_reducible repeat (first|refine ai ?_ _|refine ax ?_|refine ah ?_ _));refine dD ?_ dL.out _;(with_reducible repeat (first|refine ai ?_ _|refine ax ?_|refine ah ?_ _));refine dD ?_ dL.out _;(with_reducible repeat (first|refine ai ?_ _|refine ax ?_|refine ah ?_ _));refine dD ?_ dL.out _;(with_reducible repeat (first|refine ai ?_ _|refine ax ?_|refine ah ?_ _));refine dD ?_ dL.out _;(with_reducible repeat (first|refine ai ?_ _|refine ax ?_|refine ah ?_ _));refine dD ?_ dL.out _;(with_reducible repeat (first|refine ai ?_ _|refine ax ?_|refine ah ?_ _));exact ig.out⟩,⟨by repeat (first|(with_reducible first|exact HB.out|apply aj|apply ag|apply ak|refine ay ?_ jM.out|refine ay ?_ pI.out)|exact HB.out)⟩⟩
          ·
           rw [if_neg ET] at H
           have OC:(((aC aG bI).f0) == 13)=false:=beq_eq_false_iff_ne.mpr ET
           have Zz:(((aC aG bI).f0) != 13)=true:=bne_iff_ne.mpr ET
           have H':=af.mk H
           clear H
           have oL:0≤(bI:Int):=of_decide_eq_true (by first|(with_reducible assumption)|assumption)
           have oK:bI < (aG.length:Int):=of_decide_eq_true (by first|(with_reducible assumption)|assumption)
           obtain ⟨lW,e203,iP,iO,iM,iL,iK⟩:=oP jL.out bI oL oK
           cases e203
           replace iP:=(HB.out.cell (World.block_lt_of_cell? w _ iP)).trans iP
           replace iO:=(HB.out.cell (World.block_lt_of_cell? w _ iO)).trans iO
           replace iM:=(HB.out.cell (World.block_lt_of_cell? w _ iM)).trans iM
           replace iL:=(HB.out.cell (World.block_lt_of_cell? w _ iL)).trans iL
           replace iK:=(HB.out.cell (World.block_lt_of_cell? w _ iK)).trans iK
           replace oL:=eq_true oL
           replace oK:=eq_true oK
           go_wp2_with (first|((with_reducible refine bD (N:=7) rfl ?_);(try (refine iw (by rfl) ?_;dsimp only));refine ed ?hg (N:=7) ?hd (cs:=#[.int .u8 0,.int .u8 0,.int .u8 0,.int .u8 0,.int .i64 0]) (t:=45) ?hr ?_;(case hd=>rfl);(case hg=>rfl);(case hr=>first|(go_simp;done)|(go_simp;rfl));intro fJ hg w63 hbox hb;have dW:=af.mk (Kd.mX (by (with_reducible repeat (first|apply Kd.jJ|apply Kd.jI|apply Kd.lC));exact iG.out) hb);have dV:=af.mk (bJ (g:=kD) (o:=.cells #[.slice fA bF.length eY,.string aZ,.string bn,.slice (some lW) aG.length fC] 25 (0,0)) (by (with_reducible repeat (first|refine ai ?_ _|refine ax ?_|refine ah ?_ _));exact ig.out) hb);have dQ:=af.mk (bC (by repeat (first|(with_reducible first|exact HB.out|apply aj|apply ag|apply ak|refine ay ?_ jM.out)|exact HB.out)) hb);have gK:=af.mk (hbox);have jT:=af.mk ((by rw [hg];exact (df (by repeat (first|(with_reducible first|exact HB.out|apply aj|apply ag|apply ak|refine ay ?_ jM.out)|exact HB.out))):w.heap.size≤fJ));have lL:=jT;have kQ:=af.mk ((by rw [hg];exact Nat.ne_of_lt (iC (g:=kD) (o:=.cells #[.slice fA bF.length eY,.string aZ,.string bn,.slice (some lW) aG.length fC] 25 (0,0)) (by (with_reducible repeat (first|refine ai ?_ _|refine ax ?_|refine ah ?_ _));exact ig.out)):kD ≠ fJ));have o9:=af.mk kQ.out.symm;clear iG;clear ig;clear HB;have iG:=dW;have ig:=dV;have HB:=dQ;have jA:=gK;have Bz:=jT;have pI:=lL;have dL:=kQ;have jS:=o9;clear dW dV dQ gK jT lL kQ o9;clear hb hbox hg;have UR:=jS.out;have UN:=dL.out;obtain ⟨JR,JQ,JP,JO,RP,Jp,Jo,Jn,Jm,Qz⟩:=iV jA.out))
           go_roundg k2
           case measure=>have:=HJ2.out;have:=sJ.out;omega
           case rel=>exact ⟨(wrap64 (bI+1)),(by first|rfl|(simp;done)|(simp [*];done)),H',⟨by have:=HJ2.out;have:=sJ.out;omega⟩,⟨by (with_reducible repeat (first|apply Kd.jJ|apply Kd.jI|apply Kd.lC));exact Kd.tX (Kd.jE (p:=⟨fJ,4,none⟩) (Kd.jE (p:=⟨fJ,3,none⟩) (Kd.jE (p:=⟨fJ,2,none⟩) (Kd.jE (p:=⟨fJ,1,none⟩) (Kd.jE (p:=⟨fJ,0,none⟩) (Kd.rX iG.out jA.out (by decide)) (fun _ hk=>hk.2) (.int .u8 ((aC aG bI).f0))) (fun _ hk=>hk.2) (.int .u8 ((aC aG bI).f1))) (fun _ hk=>hk.2) (.int .u8 ((aC aG bI).f2))) (fun _ hk=>hk.2) (.int .u8 ((aC aG bI).f3))) (fun _ hk=>hk.2) (.int .i64 ((aC aG bI).f4))) (fun _ hk=>trivial)⟩,⟨by (with_reducible repeat (first|refine ai ?_ _|refine ax ?_|refine ah ?_ _));refine dD ?_ dL.out _;(with_reducible repeat (first|refine ai ?_ _|refine ax ?_|refine ah ?_ _));refine dD ?_ dL.out _;(with_reducible repeat (first|refine ai ?_ _|refine ax ?_|refine ah ?_ _));refine dD ?_ dL.out _;(with_reducible repeat (first|refine ai ?_ _|refine ax ?_|refine ah ?_ _));refine dD ?_ dL.out _;(with_reducible repeat (first|refine ai ?_ _|refine ax ?_|refine ah ?_ _));refine dD ?_ dL.out _;(with_reducible repeat (first|refine ai ?_ _|refine ax ?_|refine ah ?_ _));exact ig.out⟩,⟨by repeat (first|(with_reducible first|exact HB.out|apply aj|apply ag|apply ak|refine ay ?_ jM.out|refine ay ?_ pI.out)|exact HB.out)⟩⟩
        ·
         rw [if_neg c14] at H
         exact absurd H (by simp)
       ·
        rw [if_neg c13] at H
        exact absurd H (by simp)
      ·
       rw [if_neg c12] at H
       have vZ:decide (bI < (aG.length:Int))=false:=decide_eq_false c12
       clear c12
       obtain rfl:=Option.some.inj H
       go_wp2
       go_ret
       exact ⟨by first|rfl|(simp [aU,aT] <;> rfl)|(simp [*,aU,aT] <;> rfl),by repeat (first|(with_reducible first|exact HB.out|apply aj|apply ag|apply ak|refine ay ?_ jM.out)|exact HB.out)⟩
end Go.Proofs.YtgfnpdfhdgenbaaDoor.P
end
