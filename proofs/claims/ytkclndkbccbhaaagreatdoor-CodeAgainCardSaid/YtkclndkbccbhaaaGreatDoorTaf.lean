/- Parts of the proof of CodeAgain: what the functions that it reaches compute, and plain facts about that. -/
import Derived.Test.YtkclndkbccbhaaaGreatDoorTac
import Derived.Test.YtkclndkbccbhaaaGreatDoorTad
import Derived.Test.YtkclndkbccbhaaaGreatDoorTae
set_option linter.unusedVariables false
set_option linter.unusedSimpArgs false
section
namespace Go.Proofs.YtkclndkbccbhaaaGreatDoor.P
open Go.RowKit Go.Proofs.ae.bg Go.Proofs.ae.dw Go.Proofs.ae.dO
attribute [local go_sem] jv jq jW jV iQ iP jr jo
mutual
def bf.l0:Nat→List (List ByteArray)→List ByteArray→Int→Int→List ByteArray→ByteArray→ByteArray→List (iR)→Option (ByteArray × Int)
  | 0,_,_,_,_,_,_,_,_=>none
  | k+1,x4,Vb,x14,x15,OJ,Ho,Hm,CB=>if x15 < x14 then (if 0≤x15 then (if x15 < (Vb.length:Int) then (if x4.length < 5864062014805 then (bf.l0 k (x4++[(([(⟨#[116,121,112,101]⟩:ByteArray),eX ByteArray.empty Vb x15]:List ByteArray))]) Vb x14 (wrap64 (x15+1)) OJ Ho Hm CB) else (none)) else (none)) else (none)) else ((kK.f Ho).bind fun t119=>((kK.f Hm).bind fun t123=>((some (([(([(⟨#[108,111,99,97,108,115]⟩:ByteArray),t119]:List ByteArray)),(([(⟨#[103,108,111,98,97,108,115]⟩:ByteArray),t123]:List ByteArray))]:List (List ByteArray)):List (List ByteArray))).bind fun qK=>(if x4.length+qK.length < 5864062014805 then (bf.l1 k (x4++qK) CB (CB.length:Int) 0) else (none)))))
def bf.l1:Nat→List (List ByteArray)→List (iR)→Int→Int→Option (ByteArray × Int)
  | 0,_,_,_,_=>none
  | k+1,x4,TE,x38,x39=>if x39 < x38 then (if 0≤x39 then (if x39 < (TE.length:Int) then ((mF.f ((aJ TE x39).f0) ((aJ TE x39).f1) ((aJ TE x39).f2) ((aJ TE x39).f3) ((aJ TE x39).f4)).bind fun t135=>(if x4.length < 5864062014805 then (bf.l1 k (x4++[t135]) TE x38 (wrap64 (x39+1))) else (none))) else (none)) else (none)) else ((kH.f x4).bind fun t141=>(some (t141,0)))
end
def bf.f (k:Nat) (bP:List ByteArray) (bU:ByteArray) (bQ:ByteArray) (bn:List (iR)):Option (ByteArray × Int):=(dh.f k bP bU bQ bn).bind fun t111=>(if t111=true then (bf.l0 k ([]:List (List ByteArray)) bP (bP.length:Int) 0 bP bU bQ bn) else (some ((⟨#[]⟩:ByteArray),2)))
theorem bf.fC:∀ k,(∀ y0 y1 y2 y3 y4 y5 y6 y7,bV (bf.l0 k y0 y1 y2 y3 y4 y5 y6 y7) (bf.l0 (k+1) y0 y1 y2 y3 y4 y5 y6 y7))∧(∀ y0 y1 y2 y3,bV (bf.l1 k y0 y1 y2 y3) (bf.l1 (k+1) y0 y1 y2 y3))
  | 0=>⟨fun _ _ _ _ _ _ _ _ r h=>by simp [bf.l0] at h,fun _ _ _ _ r h=>by simp [bf.l1] at h⟩
  | k+1=>by
    obtain ⟨iU,ih1⟩:=bf.fC k
    refine ⟨?_,?_⟩
    · intro y0 y1 y2 y3 y4 y5 y6 y7
      unfold bf.l0
      repeat' first
      | (with_reducible exact iU _ _ _ _ _ _ _ _)
      | (with_reducible exact ih1 _ _ _ _)
      | (with_reducible exact dh.mono _ _ _ _ _)
      | (with_reducible exact bV.refl _)
      | (with_reducible exact bV.none _)
      | (with_reducible refine bV.ite ?_ ?_)
      | (with_reducible refine bV.bind ?_ (fun _=>?_))
      | exact iU _ _ _ _ _ _ _ _
      | exact ih1 _ _ _ _
      | exact dh.mono _ _ _ _ _
      | exact bV.none _
      | refine bV.ite ?_ ?_
      | refine bV.bind ?_ (fun _=>?_)
    · intro y0 y1 y2 y3
      unfold bf.l1
      repeat' first
      | (with_reducible exact iU _ _ _ _ _ _ _ _)
      | (with_reducible exact ih1 _ _ _ _)
      | (with_reducible exact dh.mono _ _ _ _ _)
      | (with_reducible exact bV.refl _)
      | (with_reducible exact bV.none _)
      | (with_reducible refine bV.ite ?_ ?_)
      | (with_reducible refine bV.bind ?_ (fun _=>?_))
      | exact iU _ _ _ _ _ _ _ _
      | exact ih1 _ _ _ _
      | exact dh.mono _ _ _ _ _
      | exact bV.none _
      | refine bV.ite ?_ ?_
      | refine bV.bind ?_ (fun _=>?_)
theorem bf.mono:∀ a0 a1 a2 a3 k,bV (bf.f k a0 a1 a2 a3) (bf.f (k+1) a0 a1 a2 a3):=by
  intro a0 a1 a2 a3 k
  obtain ⟨iU,ih1⟩:=bf.fC k
  unfold bf.f
  repeat' first
      | (with_reducible exact iU _ _ _ _ _ _ _ _)
      | (with_reducible exact ih1 _ _ _ _)
      | (with_reducible exact dh.mono _ _ _ _ _)
      | (with_reducible exact bV.refl _)
      | (with_reducible exact bV.none _)
      | (with_reducible refine bV.ite ?_ ?_)
      | (with_reducible refine bV.bind ?_ (fun _=>?_))
      | exact iU _ _ _ _ _ _ _ _
      | exact ih1 _ _ _ _
      | exact dh.mono _ _ _ _ _
      | exact bV.none _
      | refine bV.ite ?_ ?_
      | refine bV.bind ?_ (fun _=>?_)
def bf.T9:Bool × List (List Nat × List Nat):=(true,[([],[]),([],[]),([1],[1]),([2],[2]),([3],[3]),([],[]),([5],[5]),([6,3],[6]),([7],[7]),([4,8],[4,8]),([0,9,7],[0,9]),([10,10,0,1,2,3,4,5,6,7,8,9,10],[0,10])])
def bf.B9:List Nat:=[0,0,2,6,14,0,32,110,238,510,1023,2047]
theorem bf.acJ:oP .any (opsOf Tryz.f9 9)=bf.T9:=by kernel_rfl
theorem bf.Wi:ql bf.T9.2 bf.B9=true:=by kernel_rfl
set_option maxHeartbeats 8000000 in
set_option maxRecDepth 100000 in
theorem bf.calls (k:Nat) (fK:Option Addr) (fJ:Nat) (bP:List ByteArray) (bU:ByteArray) (bQ:ByteArray) (gy:Option Addr) (fH:Nat) (bn:List (iR)) (r1:ByteArray) (r2:Int) (w:World) (yj:Kd.C Kd.string w fK bP.length bP) (yt:bP.length≤fJ) (yh:Kd.C k27 w gy bn.length bn) (yl:bn.length≤fH) (jm:Kd.C tC w tH lH.length lH) (h:bf.f k bP bU bQ bn=some (r1,r2)) :
    Calls Tryz.prog 9 #[.agg #[.slice fK bP.length fJ,.string bU,.string bQ,.slice gy bn.length fH]] w fun e w'=>e=.returned (.tuple #[.string r1,.int .i64 r2])∧Below w.heap.size w w':=by
  have PQ:=Tryz.underlying25
  have Ul:=Tryz.underlying27
  have vw:=af.mk yj
  have I7:=af.mk yt
  clear yj yt
  have xg:=af.mk yh
  have I5:=af.mk yl
  clear yh yl
  have qJ:=af.mk jm
  clear jm
  have HB:=af.mk (Below.refl w.heap.size w)
  have H:((dh.f k bP bU bQ bn).bind fun t111=>(if t111=true then (bf.l0 k ([]:List (List ByteArray)) bP (bP.length:Int) 0 bP bU bQ bn) else (some ((⟨#[]⟩:ByteArray),2))))=some (r1,r2):=h
  clear h
  replace H:=Option.bind_eq_some_iff.mp H
  obtain ⟨t111,TC,H⟩:=H
  replace H:(if t111=true then (bf.l0 k ([]:List (List ByteArray)) bP (bP.length:Int) 0 bP bU bQ bn) else (some ((⟨#[]⟩:ByteArray),2)))=some (r1,r2):=H
  have A2:=af.mk TC
  clear TC
  by_cases c3:t111=true
  · subst c3
    have H1:(bf.l0 k ([]:List (List ByteArray)) bP (bP.length:Int) 0 bP bU bQ bn)=some (r1,r2):=by rw [if_pos rfl] at H;exact H
    clear H
    have H:=H1
    clear H1
    have H':=af.mk H
    clear H
    go_enter Tryz.func9,Tryz.ntmps9
    go_wp2_with (first|((with_reducible refine eH (N:=1) rfl ?_);refine fU ?hg (N:=1) ?hd (cs:=#[.slice fK bP.length fJ,.string bU,.string bQ,.slice gy bn.length fH]) (t:=25) ?hr ?_;(case hd=>rfl);(case hg=>rfl);(case hr=>first|(go_simp;done)|(go_simp;rfl));intro dN hg w4 hbox hb;have dE:=af.mk (aX (by repeat (first|(with_reducible first|exact HB.out|apply ai|apply ag|apply ah)|exact HB.out)) hb);have dL:=af.mk (hbox);have eF:=af.mk ((by rw [hg];exact (aY (by repeat (first|(with_reducible first|exact HB.out|apply ai|apply ag|apply ah)|exact HB.out))):w.heap.size≤dN));have fO:=af.mk ((by rw [hg];exact (aY (by repeat (first|(with_reducible first|exact HB.out|apply ai|apply ag|apply ah)|exact HB.out))):w.heap.size≤dN));clear HB;have HB:=dE;have bH:=dL;have Xx:=eF;have iK:=fO;clear dE dL eF fO;clear hb hbox hg;have MV:w4.cell? ⟨dN,0,none⟩=some (.slice fK bP.length fJ):=(au bH.out 0).trans rfl;have MS:w4.cell? ⟨dN,1,none⟩=some (.string bU):=(au bH.out 1).trans rfl;have MR:w4.cell? ⟨dN,2,none⟩=some (.string bQ):=(au bH.out 2).trans rfl;have MQ:w4.cell? ⟨dN,3,none⟩=some (.slice gy bn.length fH):=(au bH.out 3).trans rfl;have MH:=aj bH.out 0;have MG:=aj bH.out 1;have MF:=aj bH.out 2;have MC:=aj bH.out 3)|((with_reducible refine bJ (f:=18) rfl ?_);refine fD (some 10) rfl rfl Tryz.func18 (by kernel_rfl) rfl #[.agg #[.slice fK bP.length fJ,.string bU,.string bQ,.slice gy bn.length fH]] rfl (by (try simp only [List.map_toArray,List.map_cons,List.map_nil]);first|done|rfl|(simp only [List.length_drop,List.length_take];rfl)) ?_;(with_reducible refine (dh.calls k _ _ bP bU bQ _ _ bn true _ ?dS ?lJ ?pM ?pK ?pJ A2.out).mono ?_);(case dS=>repeat (first|exact (Kd.dU vw.out HB.out)|(with_reducible refine Kd.eu ?_ _)|(with_reducible refine Kd.ed ?_ _)|(with_reducible refine Kd.fQ ?_)));(case lJ=>exact I7.out);(case pM=>repeat (first|exact (Kd.dU xg.out HB.out)|(with_reducible refine Kd.eu ?_ _)|(with_reducible refine Kd.ed ?_ _)|(with_reducible refine Kd.fQ ?_)));(case pK=>exact I5.out);(case pJ=>repeat (first|exact (Kd.dU qJ.out HB.out)|(with_reducible refine Kd.eu ?_ _)|(with_reducible refine Kd.ed ?_ _)|(with_reducible refine Kd.fQ ?_)));rintro e w6 ⟨rfl,hb⟩;refine ⟨_,rfl,?_⟩;have dE:=af.mk (bZ (g:=dN) (o:=.cells #[.slice fK bP.length fJ,.string bU,.string bQ,.slice gy bn.length fH] 25 (0,0)) (by (with_reducible repeat (first|refine ay ?_ _|refine aC ?_|refine az ?_ _));exact bH.out) hb);have dL:=af.mk (aX (by repeat (first|(with_reducible first|exact HB.out|apply ai|apply ag|apply ah|refine aA ?_ iK.out)|exact HB.out)) hb);clear bH;clear HB;have bH:=dE;have HB:=dL;clear dE dL;(try clear hb);(try clear hb2);(try clear hk);(try clear hi);have MP:w6.cell? ⟨dN,0,none⟩=some (.slice fK bP.length fJ):=(au bH.out 0).trans rfl;have MO:w6.cell? ⟨dN,1,none⟩=some (.string bU):=(au bH.out 1).trans rfl;have MN:w6.cell? ⟨dN,2,none⟩=some (.string bQ):=(au bH.out 2).trans rfl;have MM:w6.cell? ⟨dN,3,none⟩=some (.slice gy bn.length fH):=(au bH.out 3).trans rfl;have MB:=aj bH.out 0;have Me:=aj bH.out 1;have Md:=aj bH.out 2;have Mc:=aj bH.out 3))
    go_loopg [4,15] k (fun kq v4 v15 w'=>∃ (eG:List (List ByteArray)) (lV:Int),v15=.int .i64 lV∧af (bf.l0 kq eG bP (bP.length:Int) lV bP bU bQ bn=some (r1,r2))∧af (kq≤k)∧af (Kd.N (Kd.slice 9 Kd.string) 22 w' w.heap.size (fun k_=>k_ ≠ dN) v4 eG)∧af (w'.heap[dN]? = some (.cells #[(.slice fK bP.length fJ),.string bU,.string bQ,(.slice gy bn.length fH)] 25 (0,0)))∧af (Below w.heap.size w w'))
    case atStart=>exact ⟨(([]:List (List ByteArray))),(0),(by first|rfl|(simp;done)|(simp [*];done)),H',⟨Nat.le_refl _⟩,⟨by first|exact Kd.wY _ _ _ _ _|exact Kd.xe _ _ _ _ _|exact Kd.wX _ _ _ _ _|exact Kd.wZ _ _ _ _ _|exact Kd.je _ _ _ _ _⟩,⟨by (with_reducible repeat (first|refine ay ?_ _|refine aC ?_|refine az ?_ _));exact bH.out⟩,⟨by repeat (first|(with_reducible first|exact HB.out|apply ai|apply ag|apply ah|refine aA ?_ iK.out)|exact HB.out)⟩⟩
    case round =>
      clear H'
      try clear c1
      try clear p2
      try clear c3
      try clear MV
      try clear MS
      try clear MR
      try clear MQ
      try clear MP
      try clear MO
      try clear MN
      try clear MM
      try clear MH
      try clear MG
      try clear MF
      try clear MC
      try clear MB
      try clear Me
      try clear Md
      try clear Mc
      obtain ⟨eG,lV,rfl,HA,nV,ig,bH,HB⟩:=hrel
      cases gk with
      | zero=>exact absurd HA.out (by simp [bf.l0])
      | succ k1 =>
        have H:=HA.out
        clear HA
        simp only [bf.l0] at H
        by_cases c8:lV < (bP.length:Int)
        · rw [if_pos c8] at H
          have AA:decide (lV < (bP.length:Int))=true:=decide_eq_true c8
          clear c8
          by_cases c9:0≤lV
          · rw [if_pos c9] at H
            have J6:decide (0≤lV)=true:=decide_eq_true c9
            clear c9
            by_cases c10:lV < (bP.length:Int)
            · rw [if_pos c10] at H
              have yx:decide (lV < (bP.length:Int))=true:=decide_eq_true c10
              clear c10
              obtain ⟨y113,hy113⟩:∃ y_:List ByteArray,y_=(([(⟨#[116,121,112,101]⟩:ByteArray),eX ByteArray.empty bP lV]:List ByteArray)):=⟨_,rfl⟩
              replace H:(if eG.length < 5864062014805 then (bf.l0 k1 (eG++[y113]) bP (bP.length:Int) (wrap64 (lV+1)) bP bU bQ bn) else (none))=some (r1,r2):=by first|(rw [hy113];with_reducible exact H)|(have oZ:=(Option.bind_some _ _).symm.trans H;rw [hy113];with_reducible exact oZ)|(have oZ:=(Option.bind_some _ _).symm.trans H;with_reducible exact oZ)|with_reducible exact H|(rw [hy113];exact H)|exact H
              have Ti:=af.mk hy113
              clear hy113
              by_cases c11:eG.length < 5864062014805
              · rw [if_pos c11] at H
                have Xa:=af.mk c11
                clear c11
                obtain ⟨Va,ES⟩:∃ y_:List (List ByteArray),y_=(eG++[y113]):=⟨_,rfl⟩
                replace H:(bf.l0 k1 Va bP (bP.length:Int) (wrap64 (lV+1)) bP bU bQ bn)=some (r1,r2):=by first|(rw [ES];with_reducible exact H)|(have oZ:=(Option.bind_some _ _).symm.trans H;rw [ES];with_reducible exact oZ)|(have oZ:=(Option.bind_some _ _).symm.trans H;with_reducible exact oZ)|with_reducible exact H|(rw [ES];exact H)|exact H
                have WS:=af.mk ES
                clear ES
                have H':=af.mk H
                clear H
                have Pq:0≤(lV:Int):=of_decide_eq_true (by first|(with_reducible assumption)|assumption)
                have Pn:lV < (bP.length:Int):=of_decide_eq_true (by first|(with_reducible assumption)|assumption)
                obtain ⟨Oe,adB,yQ⟩:=Kd.fG vw.out lV Pq Pn
                cases adB
                replace yQ:=(HB.out.cell (World.block_lt_of_cell? w _ yQ)).trans yQ
                replace Pq:=eq_true Pq
                replace Pn:=eq_true Pn
                go_wp2_with (first|((with_reducible refine eH (N:=21) rfl ?_);refine Kd.WG Kd.string _ 9 ?hg (N:=21) ?hd (xs:=([(⟨#[116,121,112,101]⟩:ByteArray),eX ByteArray.empty bP lV]:List ByteArray)) (inner:=[.string (⟨#[116,121,112,101]⟩:ByteArray),.string (eX ByteArray.empty bP lV)]) (ok:=fun _=>True) (oG:=fun _=>True) ?hr ?hp (fun _ hk=>hk) trivial (Below.refl _ _) (Nat.le_refl _) (by simp) ?_;(case hd=>rfl);(case hg=>rfl);(case hr=>first|(go_simp;done)|(go_simp;rfl));(case hp=>exact (iW.one (show Kd.M Kd.string _ _ _ (⟨#[116,121,112,101]⟩:ByteArray) [.string (⟨#[116,121,112,101]⟩:ByteArray)] from rfl) (iW.one (show Kd.M Kd.string _ _ _ (eX ByteArray.empty bP lV) [.string (eX ByteArray.empty bP lV)] from rfl) (iW.none _ _))));intro afE w12 JD hb Gz pV;clear Gz pV;(first|rw [← Ti.out] at JD|(simp only [Int.reduceToNat] at JD;rw [← Ti.out] at JD));have dE:=af.mk (Kd.nT (by (with_reducible repeat (first|apply Kd.iZ|apply Kd.iY|apply Kd.jH));exact ig.out) (Kd.iM JD) hb);have dL:=af.mk (Kd.eQ JD (aY (by repeat (first|(with_reducible first|exact HB.out|apply ai|apply ag|apply ah|refine aA ?_ iK.out)|exact HB.out))));have eF:=af.mk (bZ (g:=dN) (o:=.cells #[.slice (some Oe) bP.length fJ,.string bU,.string bQ,.slice gy bn.length fH] 25 (0,0)) (by (with_reducible repeat (first|refine ay ?_ _|refine aC ?_|refine az ?_ _));exact bH.out) hb);have fO:=af.mk (aX (by repeat (first|(with_reducible first|exact HB.out|apply ai|apply ag|apply ah|refine aA ?_ iK.out)|exact HB.out)) hb);clear ig;clear bH;clear HB;have ig:=dE;have IY:=dL;have bH:=eF;have HB:=fO;clear dE dL eF fO;clear hb JD;obtain ⟨adY,adH,adq⟩:=Kd.dY IY.out;subst adq)|((with_reducible refine iD (b:=.append) (xs:=#[.tmp 19,.tmp 22]) rfl ?_);at_builtin;refine Kd.FC (Kd.slice 9 Kd.string) (w0:=w) w.heap.size rfl (.tmp 19) (.tmp 22) 43 22 (.slice none 0 0) 24 rfl Tryz.underlying43 info22 rfl (by decide) (by omega) u4 eG y113 [.slice adY y113.length adH] (fun k_=>k_ ≠ dN) (fun k_=>((fun k_=>k_ ≠ dN)) k_∧some k_ ≠ (u4:Value).ownBlock) rfl rfl ?aP (fun _ hk=>hk) ?aF ?aO ?aB ?aS ?aL ?_;(case aP=>exact (Kd.qB (Kd.dK (Kd.dB (ok':=(fun k_=>((fun k_=>k_ ≠ dN)) k_∧some k_ ≠ (u4:Value).ownBlock)) (Kd.eP (Kd.lg (IY.out) (Kd.qx ig.out) (by decide)) bH.out (by decide)) (fun k_ hk=>⟨hk.2,hk.1.2⟩))).2.1 (Kd.R_F (Kd.dB (ok':=(fun k_=>((fun k_=>k_ ≠ dN)) k_∧some k_ ≠ (u4:Value).ownBlock)) (Kd.eP (Kd.lg (IY.out) (Kd.qx ig.out) (by decide)) bH.out (by decide)) (fun k_ hk=>⟨hk.2,hk.1.2⟩)))));(case aB=>exact (by repeat (first|(with_reducible first|exact HB.out|apply ai|apply ag|apply ah|refine aA ?_ iK.out)|exact HB.out)));(case aF=>exact (fun k_ hk=>Kd.zQ (g:=dN) (o:=.cells #[.slice (some Oe) bP.length fJ,.string bU,.string bQ,.slice gy bn.length fH] 25 (0,0)) (by (with_reducible repeat (first|refine ay ?_ _|refine aC ?_|refine az ?_ _));exact bH.out) k_ hk));(case aO=>exact (by (with_reducible repeat (first|apply Kd.iZ|apply Kd.iY|apply Kd.jH));exact Kd.nS ig.out (fun _ hk=>hk.1)));(case aS=>exact (aY (by repeat (first|(with_reducible first|exact HB.out|apply ai|apply ag|apply ah|refine aA ?_ iK.out)|exact HB.out))));(case aL=>have:=Xa.out;omega);intro v117 w14 ho hb hg hat;rw [← WS.out] at ho;have dE:=af.mk (uJ (g:=dN) (o:=.cells #[.slice (some Oe) bP.length fJ,.string bU,.string bQ,.slice gy bn.length fH] 25 (0,0)) (by (with_reducible repeat (first|refine ay ?_ _|refine aC ?_|refine az ?_ _));exact bH.out) hg (Kd.Ru ig.out bH.out (by decide)));have dL:=af.mk (hb);have eF:=af.mk (ho);clear bH;clear HB;clear ig;clear IY;have bH:=dE;have HB:=dL;have Xp:=eF;clear dE dL eF;clear ho hb hg hat))
                go_roundg k1
                case measure=>have:=nV.out;omega
                case rel=>exact ⟨(Va),(wrap64 (lV+1)),(by first|rfl|(simp;done)|(simp [*];done)),H',⟨by have:=nV.out;omega⟩,⟨by (with_reducible repeat (first|apply Kd.iZ|apply Kd.iY|apply Kd.jH));exact Xp.out⟩,⟨by (with_reducible repeat (first|refine ay ?_ _|refine aC ?_|refine az ?_ _));exact bH.out⟩,⟨by repeat (first|(with_reducible first|exact HB.out|apply ai|apply ag|apply ah|refine aA ?_ iK.out)|exact HB.out)⟩⟩
              · rw [if_neg c11] at H
                exact absurd H (by simp)
            · rw [if_neg c10] at H
              exact absurd H (by simp)
          · rw [if_neg c9] at H
            exact absurd H (by simp)
        · rw [if_neg c8] at H
          have AA:decide (lV < (bP.length:Int))=false:=decide_eq_false c8
          clear c8
          replace H:=Option.bind_eq_some_iff.mp H
          obtain ⟨t119,FO,H⟩:=H
          replace H:((kK.f bQ).bind fun t123=>((some (([(([(⟨#[108,111,99,97,108,115]⟩:ByteArray),t119]:List ByteArray)),(([(⟨#[103,108,111,98,97,108,115]⟩:ByteArray),t123]:List ByteArray))]:List (List ByteArray)):List (List ByteArray))).bind fun qK=>(if eG.length+qK.length < 5864062014805 then (bf.l1 k1 (eG++qK) bn (bn.length:Int) 0) else (none))))=some (r1,r2):=H
          have UW:=af.mk FO
          clear FO
          obtain ⟨Ah,ER⟩:∃ y_:List ByteArray,y_=(([(⟨#[108,111,99,97,108,115]⟩:ByteArray),t119]:List ByteArray)):=⟨_,rfl⟩
          replace H:((kK.f bQ).bind fun t123=>((some (([Ah,(([(⟨#[103,108,111,98,97,108,115]⟩:ByteArray),t123]:List ByteArray))]:List (List ByteArray)):List (List ByteArray))).bind fun qK=>(if eG.length+qK.length < 5864062014805 then (bf.l1 k1 (eG++qK) bn (bn.length:Int) 0) else (none))))=some (r1,r2):=by first|(rw [ER];with_reducible exact H)|(have oZ:=(Option.bind_some _ _).symm.trans H;rw [ER];with_reducible exact oZ)|(have oZ:=(Option.bind_some _ _).symm.trans H;with_reducible exact oZ)|with_reducible exact H|(rw [ER];exact H)|exact H
          have Ce:=af.mk ER
          clear ER
          replace H:=Option.bind_eq_some_iff.mp H
          obtain ⟨t123,XL,H⟩:=H
          replace H:((some (([Ah,(([(⟨#[103,108,111,98,97,108,115]⟩:ByteArray),t123]:List ByteArray))]:List (List ByteArray)):List (List ByteArray))).bind fun qK=>(if eG.length+qK.length < 5864062014805 then (bf.l1 k1 (eG++qK) bn (bn.length:Int) 0) else (none)))=some (r1,r2):=H
          have A17:=af.mk XL
          clear XL
          obtain ⟨D9,EP⟩:∃ y_:List ByteArray,y_=(([(⟨#[103,108,111,98,97,108,115]⟩:ByteArray),t123]:List ByteArray)):=⟨_,rfl⟩
          replace H:((some (([Ah,D9]:List (List ByteArray)):List (List ByteArray))).bind fun qK=>(if eG.length+qK.length < 5864062014805 then (bf.l1 k1 (eG++qK) bn (bn.length:Int) 0) else (none)))=some (r1,r2):=by first|(rw [EP];with_reducible exact H)|(have oZ:=(Option.bind_some _ _).symm.trans H;rw [EP];with_reducible exact oZ)|(have oZ:=(Option.bind_some _ _).symm.trans H;with_reducible exact oZ)|with_reducible exact H|(rw [EP];exact H)|exact H
          have Cc:=af.mk EP
          clear EP
          obtain ⟨qK,EO⟩:∃ y_:List (List ByteArray),y_=(([Ah,D9]:List (List ByteArray))):=⟨_,rfl⟩
          replace H:(if eG.length+qK.length < 5864062014805 then (bf.l1 k1 (eG++qK) bn (bn.length:Int) 0) else (none))=some (r1,r2):=by first|(rw [EO];with_reducible exact H)|(have oZ:=(Option.bind_some _ _).symm.trans H;rw [EO];with_reducible exact oZ)|(have oZ:=(Option.bind_some _ _).symm.trans H;with_reducible exact oZ)|with_reducible exact H|(rw [EO];exact H)|exact H
          have Tf:=af.mk EO
          clear EO
          by_cases c18:eG.length+qK.length < 5864062014805
          · rw [if_pos c18] at H
            have WZ:=af.mk c18
            clear c18
            obtain ⟨U9,EN⟩:∃ y_:List (List ByteArray),y_=(eG++qK):=⟨_,rfl⟩
            replace H:(bf.l1 k1 U9 bn (bn.length:Int) 0)=some (r1,r2):=by first|(rw [EN];with_reducible exact H)|(have oZ:=(Option.bind_some _ _).symm.trans H;rw [EN];with_reducible exact oZ)|(have oZ:=(Option.bind_some _ _).symm.trans H;with_reducible exact oZ)|with_reducible exact H|(rw [EN];exact H)|exact H
            have WR:=af.mk EN
            clear EN
            have H':=af.mk H
            clear H
            obtain ⟨mP,lY,NK⟩:=Kd.DY ig.out
            subst NK
            try go_wp2
            have dE:=af.mk (Kd.jH ig.out)
            have dL:=af.mk (aC bH.out)
            have eF:=af.mk (ah HB.out)
            clear ig
            clear bH
            clear HB
            have ig:=dE
            have bH:=dL
            have HB:=eF
            clear dE dL eF
            refine ry (n:=12) (S:=fun w'=>w'.cell? ⟨dN,0,none⟩=some (.slice fK bP.length fJ)∧w'.cell? ⟨dN,1,none⟩=some (.string bU)∧w'.cell? ⟨dN,2,none⟩=some (.string bQ)∧w'.cell? ⟨dN,3,none⟩=some (.slice gy bn.length fH)) (ds:=[]) #[false,false,false,false,false,false,false,false,false,false,false,false] (by kernel_rfl) rfl rfl ⟨(au bH.out 0).trans rfl,(au bH.out 1).trans rfl,(au bH.out 2).trans rfl,(au bH.out 3).trans rfl⟩ (fun hHeld=>?_);refine lN bf.acJ bf.Wi (fun dG mO=>?_)
            generalize wr.drew=w20 at ig bH HB hHeld ⊢
            refine bz (i:=0) (N:=some 25) (v:=?_) (a':=?_) #[true,false,false,false,false,false,false,false,false,false,false,false] rfl rfl (aU dG.out (by kernel_rfl)) (fun _ _ _ h=>h) (Or.inl ⟨by rfl,?_⟩) ?_ ?_
            rotate_left
            · intro w'
              go_simp
              with_reducible rfl
            rotate_left
            · simp only [Act.put,List.setIfInBounds_toArray,List.set_cons_zero,List.set_cons_succ,aK,aN]
              rfl
            refine bz (i:=1) (N:=some 26) (v:=?_) (a':=?_) #[true,true,false,false,false,false,false,false,false,false,false,false] rfl rfl (aU dG.out (by kernel_rfl)) (fun _ _ _ h=>h) (Or.inl ⟨by rfl,?_⟩) ?_ ?_
            rotate_left
            · intro w'
              go_simp
              with_reducible rfl
            rotate_left
            · simp only [Act.put,List.setIfInBounds_toArray,List.set_cons_zero,List.set_cons_succ,aK,aN]
              rfl
            refine bz (i:=5) (N:=some 30) (v:=?_) (a':=?_) #[true,true,false,false,false,true,false,false,false,false,false,false] rfl rfl (aU dG.out (by kernel_rfl)) (fun _ _ _ h=>h) (Or.inl ⟨by rfl,?_⟩) ?_ ?_
            rotate_left
            · intro w'
              go_simp
              with_reducible rfl
            rotate_left
            · simp only [Act.put,List.setIfInBounds_toArray,List.set_cons_zero,List.set_cons_succ,aK,aN]
              rfl
            refine gp (i:=2) (N:=some 27) (v:=?_) (a':=?_) #[true,true,true,false,false,true,false,false,false,false,false,false] rfl rfl (df dG.out mO.out (by kernel_rfl)) (fun _ _ _ h=>h) (Or.inl ⟨by rfl,?_⟩) hHeld ?_ ?_
            rotate_left
            · rintro w' ⟨s0,s1,s2,s3⟩
              go_simp
              with_reducible rfl
            rotate_left
            · simp only [Act.put,List.setIfInBounds_toArray,List.set_cons_zero,List.set_cons_succ,aK,aN]
              rfl
            refine gp (i:=6) (N:=some 31) (v:=?_) (a':=?_) #[true,true,true,false,false,true,true,false,false,false,false,false] rfl rfl (df dG.out mO.out (by kernel_rfl)) (fun _ _ _ h=>h) (Or.inl ⟨by rfl,?_⟩) hHeld ?_ ?_
            rotate_left
            · rintro w' ⟨s0,s1,s2,s3⟩
              go_simp
              with_reducible rfl
            rotate_left
            · simp only [Act.put,List.setIfInBounds_toArray,List.set_cons_zero,List.set_cons_succ,aK,aN]
              rfl
            refine vJ (i:=3) (N:=some 28) #[true,true,true,true,false,true,true,false,false,false,false,false] rfl rfl (kU dG.out (by kernel_rfl)) (by decide) (fun K hK=>?_)
            refine vg Tryz.func19 (by kernel_rfl) rfl #[.string bU] (by rfl) rfl rfl (by (try simp only [List.map_toArray,List.map_cons,List.map_nil]);first|done|rfl|(simp only [List.length_drop,List.length_take];rfl)) ?_
            with_reducible refine (kK.calls bU t119 _ UW.out).mono ?_
            rintro e w' ⟨rfl,⟨nd,rfl⟩⟩
            refine ⟨_,rfl,?_⟩
            refine hK.out _ _ ⟨(au bH.out 0).trans rfl,(au bH.out 1).trans rfl,(au bH.out 2).trans rfl,(au bH.out 3).trans rfl⟩ (fun hHeld=>?_)
            clear hK K
            refine lK (a':=?_) ?_ ?_
            rotate_left
            · show Act.put _ (some 28) _=_
              simp only [Act.put,List.setIfInBounds_toArray,List.set_cons_zero,List.set_cons_succ,aK,aN]
              rfl
            refine Vt (σ:=Value × Value) 3 #[true,true,true,true,true,true,true,true,true,false,false,false] (fun s_=>[(29,s_.1),(32,.string t123),(33,s_.2)]) (fun s_ w'=>(w'.cell? ⟨dN,0,none⟩=some (.slice fK bP.length fJ)∧w'.cell? ⟨dN,1,none⟩=some (.string bU)∧w'.cell? ⟨dN,2,none⟩=some (.string bQ)∧w'.cell? ⟨dN,3,none⟩=some (.slice gy bn.length fH))∧(Kd.R Kd.string 9 w' w.heap.size (fun k_=>some k_ ≠ (s_.2:Value).ownBlock) s_.1 Ah)∧(Kd.R Kd.string 9 w' w.heap.size (fun k_=>some k_ ≠ (s_.1:Value).ownBlock) s_.2 D9)∧(Kd.N (Kd.slice 9 Kd.string) 22 w' w.heap.size (fun k_=>some k_ ≠ (s_.1:Value).ownBlock∧some k_ ≠ (s_.2:Value).ownBlock∧k_ ≠ dN) (.slice mP eG.length lY) eG)∧(w'.heap[dN]? = some (.cells #[.slice fK bP.length fJ,.string bU,.string bQ,.slice gy bn.length fH] 25 (0,0)))∧(Below w.heap.size w w')) ?_ ?_
            rotate_left
            · intro Ny
              refine Vk (i:=4) (j:=7) (Ni:=some 29) (Nj:=some 32) #[true,true,true,true,true,true,true,false,false,false,false,false] #[true,true,true,true,false,true,true,true,false,false,false,false] rfl rfl rfl rfl (KG dG.out (by kernel_rfl)) (by decide) (by decide) (fun K hK=>?_) (fun K hK=>?_)
              · skip
                refine Kd.mM Kd.string _ 9 ?hg (N:=29) ?hd (xs:=([(⟨#[108,111,99,97,108,115]⟩:ByteArray),t119]:List ByteArray)) (inner:=[.string (⟨#[108,111,99,97,108,115]⟩:ByteArray),.string t119]) (ok:=fun _=>True) (oG:=fun _=>True) ?hr ?hp (fun _ hk=>hk) trivial (Below.refl _ _) (Nat.le_refl _) (by simp) ?_;(case hd=>rfl);(case hg=>rfl);(case hr=>first|(go_simp;done)|(go_simp;rfl));(case hp=>exact (iW.one (show Kd.M Kd.string _ _ _ (⟨#[108,111,99,97,108,115]⟩:ByteArray) [.string (⟨#[108,111,99,97,108,115]⟩:ByteArray)] from rfl) (iW.one (show Kd.M Kd.string _ _ _ t119 [.string t119] from rfl) (iW.none _ _))))
                intro CG Vg qN hb Gz pV
                clear Gz pV
                (first|rw [← Ce.out] at qN|(simp only [Int.reduceToNat] at qN;rw [← Ce.out] at qN))
                have dE:=af.mk (Kd.nT (by (with_reducible repeat (first|apply Kd.iZ|apply Kd.iY|apply Kd.jH));exact ig.out) (Kd.iM qN) hb)
                have dL:=af.mk (Kd.eQ qN (aY (by repeat (first|(with_reducible first|exact HB.out|apply ai|apply ag|apply ah|refine aA ?_ iK.out)|exact HB.out))))
                have eF:=af.mk (bZ (g:=dN) (o:=.cells #[.slice fK bP.length fJ,.string bU,.string bQ,.slice gy bn.length fH] 25 (0,0)) (by (with_reducible repeat (first|refine ay ?_ _|refine aC ?_|refine az ?_ _));exact bH.out) hb)
                have fO:=af.mk (aX (by repeat (first|(with_reducible first|exact HB.out|apply ai|apply ag|apply ah|refine aA ?_ iK.out)|exact HB.out)) hb)
                clear ig
                clear bH
                clear HB
                have ig:=dE
                have oh:=dL
                have bH:=eF
                have HB:=fO
                clear dE dL eF fO
                clear hb qN
                refine hK.out _ _ ⟨(au bH.out 0).trans rfl,(au bH.out 1).trans rfl,(au bH.out 2).trans rfl,(au bH.out 3).trans rfl⟩ (fun hHeld=>?_)
                clear hK K
                refine lK (a':=?_) ?_ ?_
                rotate_left
                · show Act.put _ (some 29) _=_
                  simp only [Act.put,List.setIfInBounds_toArray,List.set_cons_zero,List.set_cons_succ,aK,aN]
                  rfl
                refine vJ (i:=7) (N:=some 32) #[true,true,true,true,true,true,true,true,false,false,false,false] rfl rfl (kU dG.out (by kernel_rfl)) (by decide) (fun K hK=>?_)
                refine vg Tryz.func19 (by kernel_rfl) rfl #[.string bQ] (by rfl) rfl rfl (by (try simp only [List.map_toArray,List.map_cons,List.map_nil]);first|done|rfl|(simp only [List.length_drop,List.length_take];rfl)) ?_
                with_reducible refine (kK.calls bQ t123 _ A17.out).mono ?_
                rintro e w' ⟨rfl,⟨nd,rfl⟩⟩
                refine ⟨_,rfl,?_⟩
                refine hK.out _ _ ⟨(au bH.out 0).trans rfl,(au bH.out 1).trans rfl,(au bH.out 2).trans rfl,(au bH.out 3).trans rfl⟩ (fun hHeld=>?_)
                clear hK K
                refine lK (a':=?_) ?_ ?_
                rotate_left
                · show Act.put _ (some 32) _=_
                  simp only [Act.put,List.setIfInBounds_toArray,List.set_cons_zero,List.set_cons_succ,aK,aN]
                  rfl
                refine vJ (i:=8) (N:=some 33) #[true,true,true,true,true,true,true,true,true,false,false,false] rfl rfl (kU dG.out (by kernel_rfl)) (by decide) (fun K hK=>?_)
                refine Kd.mM Kd.string _ 9 ?hg (N:=33) ?hd (xs:=([(⟨#[103,108,111,98,97,108,115]⟩:ByteArray),t123]:List ByteArray)) (inner:=[.string (⟨#[103,108,111,98,97,108,115]⟩:ByteArray),.string t123]) (ok:=fun _=>True) (oG:=fun _=>True) ?hr ?hp (fun _ hk=>hk) trivial (Below.refl _ _) (Nat.le_refl _) (by simp) ?_;(case hd=>rfl);(case hg=>rfl);(case hr=>first|(go_simp;done)|(go_simp;rfl));(case hp=>exact (iW.one (show Kd.M Kd.string _ _ _ (⟨#[103,108,111,98,97,108,115]⟩:ByteArray) [.string (⟨#[103,108,111,98,97,108,115]⟩:ByteArray)] from rfl) (iW.one (show Kd.M Kd.string _ _ _ t123 [.string t123] from rfl) (iW.none _ _))))
                intro CE Jb pU hb Gz pV
                clear Gz pV
                (first|rw [← Cc.out] at pU|(simp only [Int.reduceToNat] at pU;rw [← Cc.out] at pU))
                have dE:=af.mk (Kd.nT (by (with_reducible repeat (first|apply Kd.iZ|apply Kd.iY|apply Kd.jH));exact ig.out) (Kd.iM pU) hb)
                have dL:=af.mk (Kd.jG (by (with_reducible repeat (first|apply Kd.aT|apply Kd.aV|apply Kd.bu));exact oh.out) (Kd.iM pU) hb)
                have eF:=af.mk (Kd.eQ (Kd.mJ pU (Kd.qc (by (with_reducible repeat (first|apply Kd.aT|apply Kd.aV|apply Kd.bu));exact oh.out))) (aY (by repeat (first|(with_reducible first|exact HB.out|apply ai|apply ag|apply ah|refine aA ?_ iK.out)|exact HB.out))))
                have fO:=af.mk (bZ (g:=dN) (o:=.cells #[.slice fK bP.length fJ,.string bU,.string bQ,.slice gy bn.length fH] 25 (0,0)) (by (with_reducible repeat (first|refine ay ?_ _|refine aC ?_|refine az ?_ _));exact bH.out) hb)
                have ik:=af.mk (aX (by repeat (first|(with_reducible first|exact HB.out|apply ai|apply ag|apply ah|refine aA ?_ iK.out)|exact HB.out)) hb)
                clear ig
                clear oh
                clear bH
                clear HB
                have ig:=dE
                have oh:=dL
                have qy:=eF
                have bH:=fO
                have HB:=ik
                clear dE dL eF fO ik
                clear hb pU
                refine hK.out _ _ ⟨(au bH.out 0).trans rfl,(au bH.out 1).trans rfl,(au bH.out 2).trans rfl,(au bH.out 3).trans rfl⟩ (fun hHeld=>?_)
                clear hK K
                refine lK (a':=?_) ?_ ?_
                rotate_left
                · show Act.put _ (some 33) _=_
                  simp only [Act.put,List.setIfInBounds_toArray,List.set_cons_zero,List.set_cons_succ,aK,aN]
                  rfl
                exact lK (by simp only [mD,Act.put,List.setIfInBounds_toArray,List.set_cons_zero,List.set_cons_succ]) (Ny (CG,CE) _ ⟨hHeld,(by (with_reducible repeat (first|apply Kd.aT|apply Kd.aV|apply Kd.bu));exact Kd.dB oh.out (fun _ hk=>hk.2)),(by (with_reducible repeat (first|apply Kd.aT|apply Kd.aV|apply Kd.bu));exact Kd.dB qy.out (fun _ hk=>hk.2)),(by (with_reducible repeat (first|apply Kd.iZ|apply Kd.iY|apply Kd.jH));exact Kd.nS ig.out (fun _ hk=>⟨hk.1.2,⟨hk.2,hk.1.1⟩⟩)),(by (with_reducible repeat (first|refine ay ?_ _|refine aC ?_|refine az ?_ _));exact bH.out),(by repeat (first|(with_reducible first|exact HB.out|apply ai|apply ag|apply ah|refine aA ?_ iK.out)|exact HB.out))⟩)
              · skip
                refine vg Tryz.func19 (by kernel_rfl) rfl #[.string bQ] (by rfl) rfl rfl (by (try simp only [List.map_toArray,List.map_cons,List.map_nil]);first|done|rfl|(simp only [List.length_drop,List.length_take];rfl)) ?_
                with_reducible refine (kK.calls bQ t123 _ A17.out).mono ?_
                rintro e w' ⟨rfl,⟨nd,rfl⟩⟩
                refine ⟨_,rfl,?_⟩
                refine hK.out _ _ ⟨(au bH.out 0).trans rfl,(au bH.out 1).trans rfl,(au bH.out 2).trans rfl,(au bH.out 3).trans rfl⟩ (fun hHeld=>?_)
                clear hK K
                refine lK (a':=?_) ?_ ?_
                rotate_left
                · show Act.put _ (some 32) _=_
                  simp only [Act.put,List.setIfInBounds_toArray,List.set_cons_zero,List.set_cons_succ,aK,aN]
                  rfl
                refine Vk (i:=4) (j:=8) (Ni:=some 29) (Nj:=some 33) #[true,true,true,true,true,true,true,true,false,false,false,false] #[true,true,true,true,false,true,true,true,true,false,false,false] rfl rfl rfl rfl (KG dG.out (by kernel_rfl)) (by decide) (by decide) (fun K hK=>?_) (fun K hK=>?_)
                · skip
                  refine Kd.mM Kd.string _ 9 ?hg (N:=29) ?hd (xs:=([(⟨#[108,111,99,97,108,115]⟩:ByteArray),t119]:List ByteArray)) (inner:=[.string (⟨#[108,111,99,97,108,115]⟩:ByteArray),.string t119]) (ok:=fun _=>True) (oG:=fun _=>True) ?hr ?hp (fun _ hk=>hk) trivial (Below.refl _ _) (Nat.le_refl _) (by simp) ?_;(case hd=>rfl);(case hg=>rfl);(case hr=>first|(go_simp;done)|(go_simp;rfl));(case hp=>exact (iW.one (show Kd.M Kd.string _ _ _ (⟨#[108,111,99,97,108,115]⟩:ByteArray) [.string (⟨#[108,111,99,97,108,115]⟩:ByteArray)] from rfl) (iW.one (show Kd.M Kd.string _ _ _ t119 [.string t119] from rfl) (iW.none _ _))))
                  intro CG Vg qN hb Gz pV
                  clear Gz pV
                  (first|rw [← Ce.out] at qN|(simp only [Int.reduceToNat] at qN;rw [← Ce.out] at qN))
                  have dE:=af.mk (Kd.nT (by (with_reducible repeat (first|apply Kd.iZ|apply Kd.iY|apply Kd.jH));exact ig.out) (Kd.iM qN) hb)
                  have dL:=af.mk (Kd.eQ qN (aY (by repeat (first|(with_reducible first|exact HB.out|apply ai|apply ag|apply ah|refine aA ?_ iK.out)|exact HB.out))))
                  have eF:=af.mk (bZ (g:=dN) (o:=.cells #[.slice fK bP.length fJ,.string bU,.string bQ,.slice gy bn.length fH] 25 (0,0)) (by (with_reducible repeat (first|refine ay ?_ _|refine aC ?_|refine az ?_ _));exact bH.out) hb)
                  have fO:=af.mk (aX (by repeat (first|(with_reducible first|exact HB.out|apply ai|apply ag|apply ah|refine aA ?_ iK.out)|exact HB.out)) hb)
                  clear ig
                  clear bH
                  clear HB
                  have ig:=dE
                  have oh:=dL
                  have bH:=eF
                  have HB:=fO
                  clear dE dL eF fO
                  clear hb qN
                  refine hK.out _ _ ⟨(au bH.out 0).trans rfl,(au bH.out 1).trans rfl,(au bH.out 2).trans rfl,(au bH.out 3).trans rfl⟩ (fun hHeld=>?_)
                  clear hK K
                  refine lK (a':=?_) ?_ ?_
                  rotate_left
                  · show Act.put _ (some 29) _=_
                    simp only [Act.put,List.setIfInBounds_toArray,List.set_cons_zero,List.set_cons_succ,aK,aN]
                    rfl
                  refine vJ (i:=8) (N:=some 33) #[true,true,true,true,true,true,true,true,true,false,false,false] rfl rfl (kU dG.out (by kernel_rfl)) (by decide) (fun K hK=>?_)
                  refine Kd.mM Kd.string _ 9 ?hg (N:=33) ?hd (xs:=([(⟨#[103,108,111,98,97,108,115]⟩:ByteArray),t123]:List ByteArray)) (inner:=[.string (⟨#[103,108,111,98,97,108,115]⟩:ByteArray),.string t123]) (ok:=fun _=>True) (oG:=fun _=>True) ?hr ?hp (fun _ hk=>hk) trivial (Below.refl _ _) (Nat.le_refl _) (by simp) ?_;(case hd=>rfl);(case hg=>rfl);(case hr=>first|(go_simp;done)|(go_simp;rfl));(case hp=>exact (iW.one (show Kd.M Kd.string _ _ _ (⟨#[103,108,111,98,97,108,115]⟩:ByteArray) [.string (⟨#[103,108,111,98,97,108,115]⟩:ByteArray)] from rfl) (iW.one (show Kd.M Kd.string _ _ _ t123 [.string t123] from rfl) (iW.none _ _))))
                  intro CE Jb pU hb Gz pV
                  clear Gz pV
                  (first|rw [← Cc.out] at pU|(simp only [Int.reduceToNat] at pU;rw [← Cc.out] at pU))
                  have dE:=af.mk (Kd.nT (by (with_reducible repeat (first|apply Kd.iZ|apply Kd.iY|apply Kd.jH));exact ig.out) (Kd.iM pU) hb)
                  have dL:=af.mk (Kd.jG (by (with_reducible repeat (first|apply Kd.aT|apply Kd.aV|apply Kd.bu));exact oh.out) (Kd.iM pU) hb)
                  have eF:=af.mk (Kd.eQ (Kd.mJ pU (Kd.qc (by (with_reducible repeat (first|apply Kd.aT|apply Kd.aV|apply Kd.bu));exact oh.out))) (aY (by repeat (first|(with_reducible first|exact HB.out|apply ai|apply ag|apply ah|refine aA ?_ iK.out)|exact HB.out))))
                  have fO:=af.mk (bZ (g:=dN) (o:=.cells #[.slice fK bP.length fJ,.string bU,.string bQ,.slice gy bn.length fH] 25 (0,0)) (by (with_reducible repeat (first|refine ay ?_ _|refine aC ?_|refine az ?_ _));exact bH.out) hb)
                  have ik:=af.mk (aX (by repeat (first|(with_reducible first|exact HB.out|apply ai|apply ag|apply ah|refine aA ?_ iK.out)|exact HB.out)) hb)
                  clear ig
                  clear oh
                  clear bH
                  clear HB
                  have ig:=dE
                  have oh:=dL
                  have qy:=eF
                  have bH:=fO
                  have HB:=ik
                  clear dE dL eF fO ik
                  clear hb pU
                  refine hK.out _ _ ⟨(au bH.out 0).trans rfl,(au bH.out 1).trans rfl,(au bH.out 2).trans rfl,(au bH.out 3).trans rfl⟩ (fun hHeld=>?_)
                  clear hK K
                  refine lK (a':=?_) ?_ ?_
                  rotate_left
                  · show Act.put _ (some 33) _=_
                    simp only [Act.put,List.setIfInBounds_toArray,List.set_cons_zero,List.set_cons_succ,aK,aN]
                    rfl
                  exact lK (by simp only [mD,Act.put,List.setIfInBounds_toArray,List.set_cons_zero,List.set_cons_succ]) (Ny (CG,CE) _ ⟨hHeld,(by (with_reducible repeat (first|apply Kd.aT|apply Kd.aV|apply Kd.bu));exact Kd.dB oh.out (fun _ hk=>hk.2)),(by (with_reducible repeat (first|apply Kd.aT|apply Kd.aV|apply Kd.bu));exact Kd.dB qy.out (fun _ hk=>hk.2)),(by (with_reducible repeat (first|apply Kd.iZ|apply Kd.iY|apply Kd.jH));exact Kd.nS ig.out (fun _ hk=>⟨hk.1.2,⟨hk.2,hk.1.1⟩⟩)),(by (with_reducible repeat (first|refine ay ?_ _|refine aC ?_|refine az ?_ _));exact bH.out),(by repeat (first|(with_reducible first|exact HB.out|apply ai|apply ag|apply ah|refine aA ?_ iK.out)|exact HB.out))⟩)
                · skip
                  refine Kd.mM Kd.string _ 9 ?hg (N:=33) ?hd (xs:=([(⟨#[103,108,111,98,97,108,115]⟩:ByteArray),t123]:List ByteArray)) (inner:=[.string (⟨#[103,108,111,98,97,108,115]⟩:ByteArray),.string t123]) (ok:=fun _=>True) (oG:=fun _=>True) ?hr ?hp (fun _ hk=>hk) trivial (Below.refl _ _) (Nat.le_refl _) (by simp) ?_;(case hd=>rfl);(case hg=>rfl);(case hr=>first|(go_simp;done)|(go_simp;rfl));(case hp=>exact (iW.one (show Kd.M Kd.string _ _ _ (⟨#[103,108,111,98,97,108,115]⟩:ByteArray) [.string (⟨#[103,108,111,98,97,108,115]⟩:ByteArray)] from rfl) (iW.one (show Kd.M Kd.string _ _ _ t123 [.string t123] from rfl) (iW.none _ _))))
                  intro CE Vg qN hb Gz pV
                  clear Gz pV
                  (first|rw [← Cc.out] at qN|(simp only [Int.reduceToNat] at qN;rw [← Cc.out] at qN))
                  have dE:=af.mk (Kd.nT (by (with_reducible repeat (first|apply Kd.iZ|apply Kd.iY|apply Kd.jH));exact ig.out) (Kd.iM qN) hb)
                  have dL:=af.mk (Kd.eQ qN (aY (by repeat (first|(with_reducible first|exact HB.out|apply ai|apply ag|apply ah|refine aA ?_ iK.out)|exact HB.out))))
                  have eF:=af.mk (bZ (g:=dN) (o:=.cells #[.slice fK bP.length fJ,.string bU,.string bQ,.slice gy bn.length fH] 25 (0,0)) (by (with_reducible repeat (first|refine ay ?_ _|refine aC ?_|refine az ?_ _));exact bH.out) hb)
                  have fO:=af.mk (aX (by repeat (first|(with_reducible first|exact HB.out|apply ai|apply ag|apply ah|refine aA ?_ iK.out)|exact HB.out)) hb)
                  clear ig
                  clear bH
                  clear HB
                  have ig:=dE
                  have qy:=dL
                  have bH:=eF
                  have HB:=fO
                  clear dE dL eF fO
                  clear hb qN
                  refine hK.out _ _ ⟨(au bH.out 0).trans rfl,(au bH.out 1).trans rfl,(au bH.out 2).trans rfl,(au bH.out 3).trans rfl⟩ (fun hHeld=>?_)
                  clear hK K
                  refine lK (a':=?_) ?_ ?_
                  rotate_left
                  · show Act.put _ (some 33) _=_
                    simp only [Act.put,List.setIfInBounds_toArray,List.set_cons_zero,List.set_cons_succ,aK,aN]
                    rfl
                  refine vJ (i:=4) (N:=some 29) #[true,true,true,true,true,true,true,true,true,false,false,false] rfl rfl (kU dG.out (by kernel_rfl)) (by decide) (fun K hK=>?_)
                  refine Kd.mM Kd.string _ 9 ?hg (N:=29) ?hd (xs:=([(⟨#[108,111,99,97,108,115]⟩:ByteArray),t119]:List ByteArray)) (inner:=[.string (⟨#[108,111,99,97,108,115]⟩:ByteArray),.string t119]) (ok:=fun _=>True) (oG:=fun _=>True) ?hr ?hp (fun _ hk=>hk) trivial (Below.refl _ _) (Nat.le_refl _) (by simp) ?_;(case hd=>rfl);(case hg=>rfl);(case hr=>first|(go_simp;done)|(go_simp;rfl));(case hp=>exact (iW.one (show Kd.M Kd.string _ _ _ (⟨#[108,111,99,97,108,115]⟩:ByteArray) [.string (⟨#[108,111,99,97,108,115]⟩:ByteArray)] from rfl) (iW.one (show Kd.M Kd.string _ _ _ t119 [.string t119] from rfl) (iW.none _ _))))
                  intro CG Jb pU hb Gz pV
                  clear Gz pV
                  (first|rw [← Ce.out] at pU|(simp only [Int.reduceToNat] at pU;rw [← Ce.out] at pU))
                  have dE:=af.mk (Kd.nT (by (with_reducible repeat (first|apply Kd.iZ|apply Kd.iY|apply Kd.jH));exact ig.out) (Kd.iM pU) hb)
                  have dL:=af.mk (Kd.jG (by (with_reducible repeat (first|apply Kd.aT|apply Kd.aV|apply Kd.bu));exact qy.out) (Kd.iM pU) hb)
                  have eF:=af.mk (Kd.eQ (Kd.mJ pU (Kd.qc (by (with_reducible repeat (first|apply Kd.aT|apply Kd.aV|apply Kd.bu));exact qy.out))) (aY (by repeat (first|(with_reducible first|exact HB.out|apply ai|apply ag|apply ah|refine aA ?_ iK.out)|exact HB.out))))
                  have fO:=af.mk (bZ (g:=dN) (o:=.cells #[.slice fK bP.length fJ,.string bU,.string bQ,.slice gy bn.length fH] 25 (0,0)) (by (with_reducible repeat (first|refine ay ?_ _|refine aC ?_|refine az ?_ _));exact bH.out) hb)
                  have ik:=af.mk (aX (by repeat (first|(with_reducible first|exact HB.out|apply ai|apply ag|apply ah|refine aA ?_ iK.out)|exact HB.out)) hb)
                  clear ig
                  clear qy
                  clear bH
                  clear HB
                  have ig:=dE
                  have qy:=dL
                  have oh:=eF
                  have bH:=fO
                  have HB:=ik
                  clear dE dL eF fO ik
                  clear hb pU
                  refine hK.out _ _ ⟨(au bH.out 0).trans rfl,(au bH.out 1).trans rfl,(au bH.out 2).trans rfl,(au bH.out 3).trans rfl⟩ (fun hHeld=>?_)
                  clear hK K
                  refine lK (a':=?_) ?_ ?_
                  rotate_left
                  · show Act.put _ (some 29) _=_
                    simp only [Act.put,List.setIfInBounds_toArray,List.set_cons_zero,List.set_cons_succ,aK,aN]
                    rfl
                  exact lK (by simp only [mD,Act.put,List.setIfInBounds_toArray,List.set_cons_zero,List.set_cons_succ]) (Ny (CG,CE) _ ⟨hHeld,(by (with_reducible repeat (first|apply Kd.aT|apply Kd.aV|apply Kd.bu));exact Kd.dB oh.out (fun _ hk=>hk.2)),(by (with_reducible repeat (first|apply Kd.aT|apply Kd.aV|apply Kd.bu));exact Kd.dB qy.out (fun _ hk=>hk.2)),(by (with_reducible repeat (first|apply Kd.iZ|apply Kd.iY|apply Kd.jH));exact Kd.nS ig.out (fun _ hk=>⟨hk.2,⟨hk.1.2,hk.1.1⟩⟩)),(by (with_reducible repeat (first|refine ay ?_ _|refine aC ?_|refine az ?_ _));exact bH.out),(by repeat (first|(with_reducible first|exact HB.out|apply ai|apply ag|apply ah|refine aA ?_ iK.out)|exact HB.out))⟩)
            rintro ⟨CG,CE⟩ Kv ⟨ji,h0_,h1_,h2_,h3_,h4_⟩
            have dE:af (Kd.R Kd.string 9 Kv w.heap.size (fun k_=>some k_ ≠ (CE:Value).ownBlock) CG Ah):=⟨h0_⟩
            have dL:af (Kd.R Kd.string 9 Kv w.heap.size (fun k_=>some k_ ≠ (CG:Value).ownBlock) CE D9):=⟨h1_⟩
            have eF:af (Kd.N (Kd.slice 9 Kd.string) 22 Kv w.heap.size (fun k_=>some k_ ≠ (CG:Value).ownBlock∧some k_ ≠ (CE:Value).ownBlock∧k_ ≠ dN) (.slice mP eG.length lY) eG):=⟨h2_⟩
            have fO:af (Kv.heap[dN]? = some (.cells #[.slice fK bP.length fJ,.string bU,.string bQ,.slice gy bn.length fH] 25 (0,0))):=⟨h3_⟩
            have ik:af (Below w.heap.size w Kv):=⟨h4_⟩
            clear ig
            clear bH
            clear HB
            clear h0_ h1_ h2_ h3_ h4_
            have oh:=dE
            have qy:=dL
            have ig:=eF
            have bH:=fO
            have HB:=ik
            clear dE dL eF fO ik
            have hHeld:Kv.cell? ⟨dN,0,none⟩=some (.slice fK bP.length fJ)∧Kv.cell? ⟨dN,1,none⟩=some (.string bU)∧Kv.cell? ⟨dN,2,none⟩=some (.string bQ)∧Kv.cell? ⟨dN,3,none⟩=some (.slice gy bn.length fH):=ji
            obtain ⟨Oy,NT,QX⟩:=Kd.dY oh.out
            (first|subst QX|(injection QX with SG VH SE;have VG:=SG.symm;have VF:=SE.symm;clear SG VH SE;subst VG;subst VF))
            obtain ⟨lG,lu,JX⟩:=Kd.dY qy.out
            (first|subst JX|(injection JX with SG VH SE;have VG:=SG.symm;have VF:=SE.symm;clear SG VH SE;subst VG;subst VF))
            refine lK (a':=?_) ?_ ?_
            rotate_left
            · simp only [mD,Act.put,List.setIfInBounds_toArray,List.set_cons_zero,List.set_cons_succ]
              rfl
            refine vJ (i:=9) (N:=some 34) #[true,true,true,true,true,true,true,true,true,true,false,false] rfl rfl (kU dG.out (by kernel_rfl)) (by decide) (fun K hK=>?_)
            refine Kd.GM (Kd.slice 9 Kd.string) _ 22 ?hg (N':=34) ?hd (xs:=([Ah,D9]:List (List ByteArray))) (inner:=[.slice Oy Ah.length NT,.slice lG D9.length lu]) (ok:=(fun k_=>some k_ ≠ (.slice mP eG.length lY:Value).ownBlock∧k_ ≠ dN)) (oG:=(fun k_=>some k_ ≠ (.slice mP eG.length lY:Value).ownBlock∧k_ ≠ dN)) ?hr ?hp (fun _ hk=>hk) ((show ∀ k_,Kv.heap.size≤k_→(fun k_=>some k_ ≠ (.slice mP eG.length lY:Value).ownBlock∧k_ ≠ dN) k_ from fun k_ hk=>⟨Kd.fresh' (Kd.WT (by (with_reducible repeat (first|apply Kd.iZ|apply Kd.iY|apply Kd.jH));exact ig.out)) k_ hk,Kd.zQ (g:=dN) (o:=.cells #[.slice fK bP.length fJ,.string bU,.string bQ,.slice gy bn.length fH] 25 (0,0)) (by (with_reducible repeat (first|refine ay ?_ _|refine aC ?_|refine az ?_ _));exact bH.out) k_ hk⟩) _ (Nat.le_refl _)) (Below.refl _ _) (Nat.le_refl _) (by simp) ?_;(case hd=>rfl);(case hg=>rfl);(case hr=>first|(go_simp;done)|(go_simp;rfl));(case hp=>exact (iW.one (show Kd.FK (Kd.slice 9 Kd.string) _ _ Ah [.slice Oy Ah.length NT] from (Kd.qB (Kd.dK (Kd.dB (ok':=(fun k_=>some k_ ≠ (.slice mP eG.length lY:Value).ownBlock∧k_ ≠ dN)) (Kd.eP (Kd.lg (oh.out) (Kd.qx ig.out) (by decide)) bH.out (by decide)) (fun k_ hk=>⟨hk.1.2,hk.2⟩))).2.1 (Kd.R_F (Kd.dB (ok':=(fun k_=>some k_ ≠ (.slice mP eG.length lY:Value).ownBlock∧k_ ≠ dN)) (Kd.eP (Kd.lg (oh.out) (Kd.qx ig.out) (by decide)) bH.out (by decide)) (fun k_ hk=>⟨hk.1.2,hk.2⟩))))) (iW.one (show Kd.FK (Kd.slice 9 Kd.string) _ _ D9 [.slice lG D9.length lu] from (Kd.qB (Kd.dK (Kd.dB (ok':=(fun k_=>some k_ ≠ (.slice mP eG.length lY:Value).ownBlock∧k_ ≠ dN)) (Kd.eP (Kd.lg (qy.out) (Kd.qx ig.out) (by decide)) bH.out (by decide)) (fun k_ hk=>⟨hk.1.2,hk.2⟩))).2.1 (Kd.R_F (Kd.dB (ok':=(fun k_=>some k_ ≠ (.slice mP eG.length lY:Value).ownBlock∧k_ ≠ dN)) (Kd.eP (Kd.lg (qy.out) (Kd.qx ig.out) (by decide)) bH.out (by decide)) (fun k_ hk=>⟨hk.1.2,hk.2⟩))))) (iW.none _ _))))
            intro afD w28 JC hb Gz pV
            clear Gz pV
            (first|rw [← Tf.out] at JC|(simp only [Int.reduceToNat] at JC;rw [← Tf.out] at JC))
            have dE:=af.mk (Kd.nT (by (with_reducible repeat (first|apply Kd.iZ|apply Kd.iY|apply Kd.jH));exact ig.out) (Kd.UM JC) hb)
            have dL:=af.mk (Kd.Rw JC (aY (by repeat (first|(with_reducible first|exact HB.out|apply ai|apply ag|apply ah|refine aA ?_ iK.out)|exact HB.out))))
            have eF:=af.mk (bZ (g:=dN) (o:=.cells #[.slice fK bP.length fJ,.string bU,.string bQ,.slice gy bn.length fH] 25 (0,0)) (by (with_reducible repeat (first|refine ay ?_ _|refine aC ?_|refine az ?_ _));exact bH.out) hb)
            have fO:=af.mk (aX (by repeat (first|(with_reducible first|exact HB.out|apply ai|apply ag|apply ah|refine aA ?_ iK.out)|exact HB.out)) hb)
            clear ig
            clear bH
            clear HB
            clear oh
            clear qy
            have ig:=dE
            have FD:=dL
            have bH:=eF
            have HB:=fO
            clear dE dL eF fO
            clear hb JC
            obtain ⟨adX,VL,QW⟩:=Kd.DY FD.out
            (first|subst QW|(injection QW with SG VH SE;have VG:=SG.symm;have VF:=SE.symm;clear SG VH SE;subst VG;subst VF))
            refine hK.out _ _ ⟨(au bH.out 0).trans rfl,(au bH.out 1).trans rfl,(au bH.out 2).trans rfl,(au bH.out 3).trans rfl⟩ (fun hHeld=>?_)
            clear hK K
            refine lK (a':=?_) ?_ ?_
            rotate_left
            · show Act.put _ (some 34) _=_
              simp only [Act.put,List.setIfInBounds_toArray,List.set_cons_zero,List.set_cons_succ,aK,aN]
              rfl
            refine vJ (i:=10) (N:=some 35) #[true,true,true,true,true,true,true,true,true,true,true,false] rfl rfl (kU dG.out (by kernel_rfl)) (by decide) (fun K hK=>?_)
            refine Kd.vS (Kd.slice 9 Kd.string) (w0:=w) w.heap.size (by rfl) (.tmp 25) (.tmp 34) 43 22 (.slice none 0 0) 24 rfl Tryz.underlying43 info22 rfl (by decide) (by omega) (.slice mP eG.length lY) eG qK _ _ _ (fun k_=>k_ ≠ dN) (fun k_=>((fun k_=>k_ ≠ dN)) k_∧some k_ ≠ (.slice mP eG.length lY:Value).ownBlock) rfl rfl ?aO ?aR (fun _ hk=>hk) ?aF ?aB ?aS ?aL ?_
            (case aR=>exact (by skip;exact Kd.N_F (Kd.nS (ok':=(fun k_=>((fun k_=>k_ ≠ dN)) k_∧some k_ ≠ (.slice mP eG.length lY:Value).ownBlock)) (FD.out) (fun k_ hk=>⟨hk.2,hk.1⟩))))
            (case aB=>exact (by repeat (first|(with_reducible first|exact HB.out|apply ai|apply ag|apply ah|refine aA ?_ iK.out)|exact HB.out)))
            (case aF=>exact (fun k_ hk=>Kd.zQ (g:=dN) (o:=.cells #[.slice fK bP.length fJ,.string bU,.string bQ,.slice gy bn.length fH] 25 (0,0)) (by (with_reducible repeat (first|refine ay ?_ _|refine aC ?_|refine az ?_ _));exact bH.out) k_ hk))
            (case aO=>exact (by (with_reducible repeat (first|apply Kd.iZ|apply Kd.iY|apply Kd.jH));exact Kd.nS ig.out (fun _ hk=>hk.1.2.2)))
            (case aS=>exact (aY (by repeat (first|(with_reducible first|exact HB.out|apply ai|apply ag|apply ah|refine aA ?_ iK.out)|exact HB.out))))
            (case aL=>have:=WZ.out;omega)
            intro v131 Vf ho hb hg hat
            rw [← WR.out] at ho
            have dE:=af.mk (uJ (g:=dN) (o:=.cells #[.slice fK bP.length fJ,.string bU,.string bQ,.slice gy bn.length fH] 25 (0,0)) (by (with_reducible repeat (first|refine ay ?_ _|refine aC ?_|refine az ?_ _));exact bH.out) hg (Kd.Ru ig.out bH.out (by decide)))
            have dL:=af.mk (Kd.Om (ok:=(fun k_=>k_ ≠ dN)) (by (with_reducible repeat (first|apply Kd.iZ|apply Kd.iY|apply Kd.jH));exact Kd.nS FD.out (fun _ hk=>⟨hk.2,hk.1⟩)) hg hat)
            have eF:=af.mk (hb)
            have fO:=af.mk (ho)
            clear bH
            clear FD
            clear HB
            clear ig
            have bH:=dE
            have FD:=dL
            have HB:=eF
            have Xo:=fO
            clear dE dL eF fO
            clear ho hb hg hat
            refine hK.out _ _ ⟨(au bH.out 0).trans rfl,(au bH.out 1).trans rfl,(au bH.out 2).trans rfl,(au bH.out 3).trans rfl⟩ (fun hHeld=>?_)
            clear hK K
            refine lK (a':=?_) ?_ ?_
            rotate_left
            · show Act.put _ (some 35) _=_
              simp only [Act.put,List.setIfInBounds_toArray,List.set_cons_zero,List.set_cons_succ,aK,aN]
              rfl
            refine bz (i:=11) (N:=some 4) (v:=?_) (a':=?_) #[true,true,true,true,true,true,true,true,true,true,true,true] rfl rfl (aU dG.out (by kernel_rfl)) (fun _ _ _ h=>h) (Or.inl ⟨by rfl,?_⟩) ?_ ?_
            rotate_left
            · intro w'
              go_simp
              with_reducible rfl
            rotate_left
            · simp only [Act.put,List.setIfInBounds_toArray,List.set_cons_zero,List.set_cons_succ,aK,aN]
              rfl
            refine wL (pg dG.out (by kernel_rfl)) ?_
            have Dw:Vf.cell? ⟨dN,0,none⟩=some (.slice fK bP.length fJ):=(au bH.out 0).trans rfl
            have Dv:Vf.cell? ⟨dN,1,none⟩=some (.string bU):=(au bH.out 1).trans rfl
            have Du:Vf.cell? ⟨dN,2,none⟩=some (.string bQ):=(au bH.out 2).trans rfl
            have Dt:Vf.cell? ⟨dN,3,none⟩=some (.slice gy bn.length fH):=(au bH.out 3).trans rfl
            have Dq:=aj bH.out 0
            have Dp:=aj bH.out 1
            have Dn:=aj bH.out 2
            have Dl:=aj bH.out 3
            try go_wp2
            go_loopg [4,39] k1 (fun kq v4 v39 w'=>∃ (Ai:List (List ByteArray)) (gm:Int),v39=.int .i64 gm∧af (bf.l1 kq Ai bn (bn.length:Int) gm=some (r1,r2))∧af (kq≤k1)∧af (Kd.N (Kd.slice 9 Kd.string) 22 w' w.heap.size (fun k_=>k_ ≠ dN) v4 Ai)∧af (w'.heap[dN]? = some (.cells #[(.slice fK bP.length fJ),.string bU,.string bQ,(.slice gy bn.length fH)] 25 (0,0)))∧af (Below w.heap.size w w'))
            case atStart=>exact ⟨(U9),(0),(by first|rfl|(simp;done)|(simp [*];done)),H',⟨Nat.le_refl _⟩,⟨by (with_reducible repeat (first|apply Kd.iZ|apply Kd.iY|apply Kd.jH));exact Xo.out⟩,⟨by (with_reducible repeat (first|refine ay ?_ _|refine aC ?_|refine az ?_ _));exact bH.out⟩,⟨by repeat (first|(with_reducible first|exact HB.out|apply ai|apply ag|apply ah|refine aA ?_ iK.out)|exact HB.out)⟩⟩
            case round =>
              clear H'
              try clear c1
              try clear p1
              try clear q1
              try clear hx1
              try clear p2
              try clear c3
              try clear p6
              try clear c8
              try clear AA
              try clear c9
              try clear J6
              try clear c10
              try clear yx
              try clear c11
              try clear p11
              try clear q11
              try clear afH
              try clear c18
              try clear c19
              try clear Dw
              try clear Dv
              try clear Du
              try clear Dt
              try clear MV
              try clear MS
              try clear MR
              try clear MQ
              try clear MP
              try clear MO
              try clear MN
              try clear MM
              try clear Dq
              try clear Dp
              try clear Dn
              try clear Dl
              try clear MH
              try clear MG
              try clear MF
              try clear MC
              try clear MB
              try clear Me
              try clear Md
              try clear Mc
              try clear yQ
              try clear Pq
              try clear p2
              try clear Pn
              obtain ⟨Ai,gm,rfl,HA,yA,ig,bH,HB⟩:=hrel
              cases gk with
              | zero=>exact absurd HA.out (by simp [bf.l1])
              | succ k2 =>
                have H:=HA.out
                clear HA
                simp only [bf.l1] at H
                by_cases U2:gm < (bn.length:Int)
                · rw [if_pos U2] at H
                  have VU:decide (gm < (bn.length:Int))=true:=decide_eq_true U2
                  clear U2
                  by_cases c34:0≤gm
                  · rw [if_pos c34] at H
                    have SI:decide (0≤gm)=true:=decide_eq_true c34
                    clear c34
                    by_cases Rh:gm < (bn.length:Int)
                    · rw [if_pos Rh] at H
                      have VT:decide (gm < (bn.length:Int))=true:=decide_eq_true Rh
                      clear Rh
                      replace H:=Option.bind_eq_some_iff.mp H
                      obtain ⟨t135,XH,H⟩:=H
                      replace H:(if Ai.length < 5864062014805 then (bf.l1 k2 (Ai++[t135]) bn (bn.length:Int) (wrap64 (gm+1))) else (none))=some (r1,r2):=H
                      have A36:=af.mk XH
                      clear XH
                      by_cases c37:Ai.length < 5864062014805
                      · rw [if_pos c37] at H
                        have WU:=af.mk c37
                        clear c37
                        obtain ⟨U8,EM⟩:∃ y_:List (List ByteArray),y_=(Ai++[t135]):=⟨_,rfl⟩
                        replace H:(bf.l1 k2 U8 bn (bn.length:Int) (wrap64 (gm+1)))=some (r1,r2):=by first|(rw [EM];with_reducible exact H)|(have oZ:=(Option.bind_some _ _).symm.trans H;rw [EM];with_reducible exact oZ)|(have oZ:=(Option.bind_some _ _).symm.trans H;with_reducible exact oZ)|with_reducible exact H|(rw [EM];exact H)|exact H
                        have WQ:=af.mk EM
                        clear EM
                        have H':=af.mk H
                        clear H
                        have Uf:0≤(gm:Int):=of_decide_eq_true (by first|(with_reducible assumption)|assumption)
                        have TY:gm < (bn.length:Int):=of_decide_eq_true (by first|(with_reducible assumption)|assumption)
                        obtain ⟨Cb,adA,Dk,Dj,Di,Dh,Df⟩:=sH xg.out gm Uf TY
                        cases adA
                        replace Dk:=(HB.out.cell (World.block_lt_of_cell? w _ Dk)).trans Dk
                        replace Dj:=(HB.out.cell (World.block_lt_of_cell? w _ Dj)).trans Dj
                        replace Di:=(HB.out.cell (World.block_lt_of_cell? w _ Di)).trans Di
                        replace Dh:=(HB.out.cell (World.block_lt_of_cell? w _ Dh)).trans Dh
                        replace Df:=(HB.out.cell (World.block_lt_of_cell? w _ Df)).trans Df
                        replace Uf:=eq_true Uf
                        replace TY:=eq_true TY
                        go_wp2_with (first|((with_reducible refine eH (N:=8) rfl ?_);refine fU ?hg (N:=8) ?hd (cs:=#[.int .u8 0,.int .u8 0,.int .u8 0,.int .u8 0,.int .i64 0]) (t:=27) ?hr ?_;(case hd=>rfl);(case hg=>rfl);(case hr=>first|(go_simp;done)|(go_simp;rfl));intro lL hg UX hbox hb;have dE:=af.mk (Kd.uN (Kd.Ol (by (with_reducible repeat (first|apply Kd.iZ|apply Kd.iY|apply Kd.jH));exact ig.out) lL (Nat.le_of_eq hg.symm)) hb);have dL:=af.mk (bZ (g:=dN) (o:=.cells #[.slice fK bP.length fJ,.string bU,.string bQ,.slice (some Cb) bn.length fH] 25 (0,0)) (by (with_reducible repeat (first|refine ay ?_ _|refine aC ?_|refine az ?_ _));exact bH.out) hb);have eF:=af.mk (aX (by repeat (first|(with_reducible first|exact HB.out|apply ai|apply ag|apply ah|refine aA ?_ iK.out)|exact HB.out)) hb);have fO:=af.mk (hbox);have ik:=af.mk ((by rw [hg];exact (aY (by repeat (first|(with_reducible first|exact HB.out|apply ai|apply ag|apply ah|refine aA ?_ iK.out)|exact HB.out))):w.heap.size≤lL));have kR:=af.mk ((by rw [hg];exact (aY (by repeat (first|(with_reducible first|exact HB.out|apply ai|apply ag|apply ah|refine aA ?_ iK.out)|exact HB.out))):w.heap.size≤lL));have oJ:=af.mk ((by rw [hg];exact Nat.ne_of_lt (kV (g:=dN) (o:=.cells #[.slice fK bP.length fJ,.string bU,.string bQ,.slice (some Cb) bn.length fH] 25 (0,0)) (by (with_reducible repeat (first|refine ay ?_ _|refine aC ?_|refine az ?_ _));exact bH.out)):dN ≠ lL));have Bz:=af.mk ((by rw [hg];exact Nat.ne_of_gt (kV (g:=dN) (o:=.cells #[.slice fK bP.length fJ,.string bU,.string bQ,.slice (some Cb) bn.length fH] 25 (0,0)) (by (with_reducible repeat (first|refine ay ?_ _|refine aC ?_|refine az ?_ _));exact bH.out)):lL ≠ dN));clear ig;clear bH;clear HB;have ig:=dE;have bH:=dL;have HB:=eF;have mZ:=fO;have afg:=ik;have Cf:=kR;have pF:=oJ;have Ku:=Bz;clear dE dL eF fO ik kR oJ Bz;clear hb hbox hg;have aeA:=Ku.out;have aej:=pF.out;have Qr:UX.cell? ⟨lL,0,none⟩=some (.int .u8 0):=(au mZ.out 0).trans rfl;have Qq:UX.cell? ⟨lL,1,none⟩=some (.int .u8 0):=(au mZ.out 1).trans rfl;have Qp:UX.cell? ⟨lL,2,none⟩=some (.int .u8 0):=(au mZ.out 2).trans rfl;have Qo:UX.cell? ⟨lL,3,none⟩=some (.int .u8 0):=(au mZ.out 3).trans rfl;have abd:UX.cell? ⟨lL,4,none⟩=some (.int .i64 0):=(au mZ.out 4).trans rfl;have PV:=aj mZ.out 0;have PU:=aj mZ.out 1;have PT:=aj mZ.out 2;have PS:=aj mZ.out 3;have Y0:=aj mZ.out 4)|((with_reducible refine bJ (f:=20) rfl ?_);refine fD (some 45) rfl rfl Tryz.func20 (by kernel_rfl) rfl #[.agg #[.int .u8 ((aJ bn gm).f0),.int .u8 ((aJ bn gm).f1),.int .u8 ((aJ bn gm).f2),.int .u8 ((aJ bn gm).f3),.int .i64 ((aJ bn gm).f4)]] rfl (by (try simp only [List.map_toArray,List.map_cons,List.map_nil]);first|done|rfl|(simp only [List.length_drop,List.length_take];rfl)) ?_;(with_reducible refine (mF.calls ((aJ bn gm).f0) ((aJ bn gm).f1) ((aJ bn gm).f2) ((aJ bn gm).f3) ((aJ bn gm).f4) t135 _ ?dS A36.out).mono ?_);(case dS=>exact Kd.dU qJ.out (by repeat (first|(with_reducible first|exact HB.out|apply ai|apply ag|apply ah|refine aA ?_ iK.out|refine aA ?_ Cf.out)|exact HB.out)));rintro e w41 ⟨afC,rfl,ho0,hb⟩;refine ⟨_,rfl,?_⟩;have dE:=af.mk (Kd.nT (by (with_reducible repeat (first|apply Kd.iZ|apply Kd.iY|apply Kd.jH));exact (Kd.nS (Kd.FB (p:=⟨lL,4,none⟩) (Kd.FB (p:=⟨lL,3,none⟩) (Kd.FB (p:=⟨lL,2,none⟩) (Kd.FB (p:=⟨lL,1,none⟩) (Kd.FB (p:=⟨lL,0,none⟩) (Kd.nS ig.out (fun k_ hk=>(⟨hk,hk.2⟩:_∧k_ ≠ lL))) (fun _ hk=>hk.2) (.int .u8 ((aJ bn gm).f0))) (fun _ hk=>hk.2) (.int .u8 ((aJ bn gm).f1))) (fun _ hk=>hk.2) (.int .u8 ((aJ bn gm).f2))) (fun _ hk=>hk.2) (.int .u8 ((aJ bn gm).f3))) (fun _ hk=>hk.2) (.int .i64 ((aJ bn gm).f4))) (fun _ h_=>h_.1))) (Kd.iM ho0) hb);have dL:=af.mk (Kd.eQ ho0 (aY (by repeat (first|(with_reducible first|exact HB.out|apply ai|apply ag|apply ah|refine aA ?_ iK.out|refine aA ?_ Cf.out)|exact HB.out))));have eF:=af.mk (bZ (g:=dN) (o:=.cells #[.slice fK bP.length fJ,.string bU,.string bQ,.slice (some Cb) bn.length fH] 25 (0,0)) (by (with_reducible repeat (first|refine ay ?_ _|refine aC ?_|refine az ?_ _));refine gW ?_ pF.out _;(with_reducible repeat (first|refine ay ?_ _|refine aC ?_|refine az ?_ _));refine gW ?_ pF.out _;(with_reducible repeat (first|refine ay ?_ _|refine aC ?_|refine az ?_ _));refine gW ?_ pF.out _;(with_reducible repeat (first|refine ay ?_ _|refine aC ?_|refine az ?_ _));refine gW ?_ pF.out _;(with_reducible repeat (first|refine ay ?_ _|refine aC ?_|refine az ?_ _));refine gW ?_ pF.out _;(with_reducible repeat (first|refine ay ?_ _|refine aC ?_|refine az ?_ _));exact bH.out) hb);have fO:=af.mk (bZ (g:=lL) (o:=.cells #[.int .u8 ((aJ bn gm).f0),.int .u8 ((aJ bn gm).f1),.int .u8 ((aJ bn gm).f2),.int .u8 ((aJ bn gm).f3),.int .i64 ((aJ bn gm).f4)] 27 (0,0)) (by (with_reducible repeat (first|refine ay ?_ _|refine aC ?_|refine az ?_ _));refine dP (cs:=#[.int .u8 ((aJ bn gm).f0),.int .u8 ((aJ bn gm).f1),.int .u8 ((aJ bn gm).f2),.int .u8 ((aJ bn gm).f3),.int .i64 0]) ?_ 4 _ rfl;(with_reducible repeat (first|refine ay ?_ _|refine aC ?_|refine az ?_ _));refine dP (cs:=#[.int .u8 ((aJ bn gm).f0),.int .u8 ((aJ bn gm).f1),.int .u8 ((aJ bn gm).f2),.int .u8 0,.int .i64 0]) ?_ 3 _ rfl;(with_reducible repeat (first|refine ay ?_ _|refine aC ?_|refine az ?_ _));refine dP (cs:=#[.int .u8 ((aJ bn gm).f0),.int .u8 ((aJ bn gm).f1),.int .u8 0,.int .u8 0,.int .i64 0]) ?_ 2 _ rfl;(with_reducible repeat (first|refine ay ?_ _|refine aC ?_|refine az ?_ _));refine dP (cs:=#[.int .u8 ((aJ bn gm).f0),.int .u8 0,.int .u8 0,.int .u8 0,.int .i64 0]) ?_ 1 _ rfl;(with_reducible repeat (first|refine ay ?_ _|refine aC ?_|refine az ?_ _));refine dP (cs:=#[.int .u8 0,.int .u8 0,.int .u8 0,.int .u8 0,.int .i64 0]) ?_ 0 _ rfl;(with_reducible repeat (first|refine ay ?_ _|refine aC ?_|refine az ?_ _));exact mZ.out) hb);have ik:=af.mk (aX (by repeat (first|(with_reducible first|exact HB.out|apply ai|apply ag|apply ah|refine aA ?_ iK.out|refine aA ?_ Cf.out)|exact HB.out)) hb);clear ig;clear bH;clear mZ;clear HB;have ig:=dE;have IX:=dL;have bH:=eF;have mZ:=fO;have HB:=ik;clear dE dL eF fO ik;(try clear hb);(try clear hb2);(try clear hk);(try clear hi);(try clear ho0);obtain ⟨adW,adG,adh⟩:=Kd.dY IX.out;subst adh)|((with_reducible refine iD (b:=.append) (xs:=#[.tmp 43,.tmp 46]) rfl ?_);at_builtin;refine Kd.FC (Kd.slice 9 Kd.string) (w0:=w) w.heap.size rfl (.tmp 43) (.tmp 46) 43 22 (.slice none 0 0) 24 rfl Tryz.underlying43 info22 rfl (by decide) (by omega) u4 Ai t135 [.slice adW t135.length adG] (fun k_=>k_ ≠ dN∧k_ ≠ lL) (fun k_=>((fun k_=>k_ ≠ dN∧k_ ≠ lL)) k_∧some k_ ≠ (u4:Value).ownBlock) rfl rfl ?aP (fun _ hk=>hk) ?aF ?aO ?aB ?aS ?aL ?_;(case aP=>exact (Kd.qB (Kd.dK (Kd.dB (ok':=(fun k_=>((fun k_=>k_ ≠ dN∧k_ ≠ lL)) k_∧some k_ ≠ (u4:Value).ownBlock)) (Kd.eP (Kd.eP (Kd.lg (IX.out) (Kd.qx ig.out) (by decide)) bH.out (by decide)) mZ.out (by decide)) (fun k_ hk=>⟨⟨hk.1.2,hk.2⟩,hk.1.1.2⟩))).2.1 (Kd.R_F (Kd.dB (ok':=(fun k_=>((fun k_=>k_ ≠ dN∧k_ ≠ lL)) k_∧some k_ ≠ (u4:Value).ownBlock)) (Kd.eP (Kd.eP (Kd.lg (IX.out) (Kd.qx ig.out) (by decide)) bH.out (by decide)) mZ.out (by decide)) (fun k_ hk=>⟨⟨hk.1.2,hk.2⟩,hk.1.1.2⟩)))));(case aB=>exact (by repeat (first|(with_reducible first|exact HB.out|apply ai|apply ag|apply ah|refine aA ?_ iK.out|refine aA ?_ Cf.out)|exact HB.out)));(case aF=>exact (fun k_ hk=>⟨Kd.zQ (g:=dN) (o:=.cells #[.slice fK bP.length fJ,.string bU,.string bQ,.slice (some Cb) bn.length fH] 25 (0,0)) (by (with_reducible repeat (first|refine ay ?_ _|refine aC ?_|refine az ?_ _));exact bH.out) k_ hk,Kd.zQ (g:=lL) (o:=.cells #[.int .u8 ((aJ bn gm).f0),.int .u8 ((aJ bn gm).f1),.int .u8 ((aJ bn gm).f2),.int .u8 ((aJ bn gm).f3),.int .i64 ((aJ bn gm).f4)] 27 (0,0)) (by (with_reducible repeat (first|refine ay ?_ _|refine aC ?_|refine az ?_ _));exact mZ.out) k_ hk⟩));(case aO=>exact (by (with_reducible repeat (first|apply Kd.iZ|apply Kd.iY|apply Kd.jH));exact Kd.nS ig.out (fun _ hk=>⟨hk.1.1,hk.1.2⟩)));(case aS=>exact (aY (by repeat (first|(with_reducible first|exact HB.out|apply ai|apply ag|apply ah|refine aA ?_ iK.out|refine aA ?_ Cf.out)|exact HB.out))));(case aL=>have:=WU.out;omega);intro v139 w42 ho hb hg hat;rw [← WQ.out] at ho;have dE:=af.mk (uJ (g:=dN) (o:=.cells #[.slice fK bP.length fJ,.string bU,.string bQ,.slice (some Cb) bn.length fH] 25 (0,0)) (by (with_reducible repeat (first|refine ay ?_ _|refine aC ?_|refine az ?_ _));exact bH.out) hg (Kd.Ru ig.out bH.out (by decide)));have dL:=af.mk (uJ (g:=lL) (o:=.cells #[.int .u8 ((aJ bn gm).f0),.int .u8 ((aJ bn gm).f1),.int .u8 ((aJ bn gm).f2),.int .u8 ((aJ bn gm).f3),.int .i64 ((aJ bn gm).f4)] 27 (0,0)) (by (with_reducible repeat (first|refine ay ?_ _|refine aC ?_|refine az ?_ _));exact mZ.out) hg (Kd.Ru ig.out mZ.out (by decide)));have eF:=af.mk (hb);have fO:=af.mk (ho);clear bH;clear mZ;clear HB;clear ig;clear IX;have bH:=dE;have mZ:=dL;have HB:=eF;have Xn:=fO;clear dE dL eF fO;clear ho hb hg hat))
                        go_roundg k2
                        case measure=>have:=nV.out;have:=yA.out;omega
                        case rel=>exact ⟨(U8),(wrap64 (gm+1)),(by first|rfl|(simp;done)|(simp [*];done)),H',⟨by have:=nV.out;have:=yA.out;omega⟩,⟨by (with_reducible repeat (first|apply Kd.iZ|apply Kd.iY|apply Kd.jH));exact Kd.nS Xn.out (fun _ hk=>hk.1)⟩,⟨by (with_reducible repeat (first|refine ay ?_ _|refine aC ?_|refine az ?_ _));exact bH.out⟩,⟨by repeat (first|(with_reducible first|exact HB.out|apply ai|apply ag|apply ah|refine aA ?_ iK.out|refine aA ?_ Cf.out)|exact HB.out)⟩⟩
                      · rw [if_neg c37] at H
                        exact absurd H (by simp)
                    · rw [if_neg Rh] at H
                      exact absurd H (by simp)
                  · rw [if_neg c34] at H
                    exact absurd H (by simp)
                · rw [if_neg U2] at H
                  have VU:decide (gm < (bn.length:Int))=false:=decide_eq_false U2
                  clear U2
                  replace H:=Option.bind_eq_some_iff.mp H
                  obtain ⟨t141,XG,H⟩:=H
                  replace H:(some (t141,0))=some (r1,r2):=H
                  have A44:=af.mk XG
                  clear XG
                  simp only [Option.some.injEq,Prod.mk.injEq] at H
                  obtain ⟨rfl,rfl⟩:=H
                  obtain ⟨RN,Q4,Ux⟩:=Kd.DY ig.out
                  subst Ux
                  go_wp2_with (first|((with_reducible refine bJ (f:=21) rfl ?_);refine fD (some 50) rfl rfl Tryz.func21 (by kernel_rfl) rfl #[.slice RN Ai.length Q4] rfl (by (try simp only [List.map_toArray,List.map_cons,List.map_nil]);first|done|rfl|(simp only [List.length_drop,List.length_take];rfl)) ?_;(with_reducible refine (kH.calls _ _ Ai t141 _ ?dS ?lJ A44.out).mono ?_);(case dS=>repeat (first|exact (Kd.zZ ig.out).2.2|(with_reducible refine Kd.eu ?_ _)|(with_reducible refine Kd.ed ?_ _)|(with_reducible refine Kd.fQ ?_)));(case lJ=>exact (Kd.zZ ig.out).2.1);rintro e w46 ⟨rfl,hb⟩;refine ⟨_,rfl,?_⟩;have dE:=af.mk (Kd.uN (by (with_reducible repeat (first|apply Kd.iZ|apply Kd.iY|apply Kd.jH));exact ig.out) hb);have dL:=af.mk (bZ (g:=dN) (o:=.cells #[.slice fK bP.length fJ,.string bU,.string bQ,.slice gy bn.length fH] 25 (0,0)) (by (with_reducible repeat (first|refine ay ?_ _|refine aC ?_|refine az ?_ _));exact bH.out) hb);have eF:=af.mk (aX (by repeat (first|(with_reducible first|exact HB.out|apply ai|apply ag|apply ah|refine aA ?_ iK.out)|exact HB.out)) hb);clear ig;clear bH;clear HB;have ig:=dE;have bH:=dL;have HB:=eF;clear dE dL eF;(try clear hb);(try clear hb2);(try clear hk);(try clear hi)))
                  go_ret2
                  exact ⟨by first|rfl|(simp [bF,bD] <;> rfl)|(simp [*,bF,bD] <;> rfl),by repeat (first|(with_reducible first|exact HB.out|apply ai|apply ag|apply ah|refine aA ?_ iK.out)|exact HB.out)⟩
          · rw [if_neg c18] at H
            exact absurd H (by simp)
  · replace c3:=Bool.eq_false_iff.mpr c3
    subst c3
    have H1:(some ((⟨#[]⟩:ByteArray),2))=some (r1,r2):=by rw [if_neg (show ¬ (false=true) by decide)] at H;exact H
    clear H
    have H:=H1
    clear H1
    simp only [Option.some.injEq,Prod.mk.injEq] at H
    obtain ⟨rfl,rfl⟩:=H
    go_enter Tryz.func9,Tryz.ntmps9
    go_wp2_with (first|((with_reducible refine eH (N:=1) rfl ?_);refine fU ?hg (N:=1) ?hd (cs:=#[.slice fK bP.length fJ,.string bU,.string bQ,.slice gy bn.length fH]) (t:=25) ?hr ?_;(case hd=>rfl);(case hg=>rfl);(case hr=>first|(go_simp;done)|(go_simp;rfl));intro dN hg XX hbox hb;have dE:=af.mk (aX (by repeat (first|(with_reducible first|exact HB.out|apply ai|apply ag|apply ah)|exact HB.out)) hb);have dL:=af.mk (hbox);have eF:=af.mk ((by rw [hg];exact (aY (by repeat (first|(with_reducible first|exact HB.out|apply ai|apply ag|apply ah)|exact HB.out))):w.heap.size≤dN));have fO:=af.mk ((by rw [hg];exact (aY (by repeat (first|(with_reducible first|exact HB.out|apply ai|apply ag|apply ah)|exact HB.out))):w.heap.size≤dN));clear HB;have HB:=dE;have bH:=dL;have Xx:=eF;have iK:=fO;clear dE dL eF fO;clear hb hbox hg;have aaR:XX.cell? ⟨dN,0,none⟩=some (.slice fK bP.length fJ):=(au bH.out 0).trans rfl;have aaQ:XX.cell? ⟨dN,1,none⟩=some (.string bU):=(au bH.out 1).trans rfl;have aaP:XX.cell? ⟨dN,2,none⟩=some (.string bQ):=(au bH.out 2).trans rfl;have aaO:XX.cell? ⟨dN,3,none⟩=some (.slice gy bn.length fH):=(au bH.out 3).trans rfl;have YF:=aj bH.out 0;have YE:=aj bH.out 1;have YD:=aj bH.out 2;have YC:=aj bH.out 3)|((with_reducible refine bJ (f:=18) rfl ?_);refine fD (some 10) rfl rfl Tryz.func18 (by kernel_rfl) rfl #[.agg #[.slice fK bP.length fJ,.string bU,.string bQ,.slice gy bn.length fH]] rfl (by (try simp only [List.map_toArray,List.map_cons,List.map_nil]);first|done|rfl|(simp only [List.length_drop,List.length_take];rfl)) ?_;(with_reducible refine (dh.calls k _ _ bP bU bQ _ _ bn false _ ?dS ?lJ ?pM ?pK ?pJ A2.out).mono ?_);(case dS=>repeat (first|exact (Kd.dU vw.out HB.out)|(with_reducible refine Kd.eu ?_ _)|(with_reducible refine Kd.ed ?_ _)|(with_reducible refine Kd.fQ ?_)));(case lJ=>exact I7.out);(case pM=>repeat (first|exact (Kd.dU xg.out HB.out)|(with_reducible refine Kd.eu ?_ _)|(with_reducible refine Kd.ed ?_ _)|(with_reducible refine Kd.fQ ?_)));(case pK=>exact I5.out);(case pJ=>repeat (first|exact (Kd.dU qJ.out HB.out)|(with_reducible refine Kd.eu ?_ _)|(with_reducible refine Kd.ed ?_ _)|(with_reducible refine Kd.fQ ?_)));rintro e w49 ⟨rfl,hb⟩;refine ⟨_,rfl,?_⟩;have dE:=af.mk (bZ (g:=dN) (o:=.cells #[.slice fK bP.length fJ,.string bU,.string bQ,.slice gy bn.length fH] 25 (0,0)) (by (with_reducible repeat (first|refine ay ?_ _|refine aC ?_|refine az ?_ _));exact bH.out) hb);have dL:=af.mk (aX (by repeat (first|(with_reducible first|exact HB.out|apply ai|apply ag|apply ah|refine aA ?_ iK.out)|exact HB.out)) hb);clear bH;clear HB;have bH:=dE;have HB:=dL;clear dE dL;(try clear hb);(try clear hb2);(try clear hk);(try clear hi)))
    go_ret2
    exact ⟨by first|rfl|(simp [bF,bD] <;> rfl)|(simp [*,bF,bD] <;> rfl),by repeat (first|(with_reducible first|exact HB.out|apply ai|apply ag|apply ah|refine aA ?_ iK.out)|exact HB.out)⟩
def pI.f (a0:ByteArray):Option (Bool):=if (a0.size:Int)≤30 then ((gV.f a0 (⟨#[97,98,99,100,101,102,103,104,105,106,107,108,109,110,111,112,113,114,115,116,117,118,119,120,121,122,48,49,50,51,52,53,54,55,56,57,45]⟩:ByteArray)).bind fun t142=>(some (t142.toList == ([]:List UInt8)))) else (some false)
set_option maxHeartbeats 8000000 in
set_option maxRecDepth 100000 in
theorem pI.calls (a0:ByteArray) (r:Bool) (w:World) (h:pI.f a0=some r) :
    Calls Tryz.prog 51 #[.string a0] w fun e w'=>e=.returned (.bool r)∧Below w.heap.size w w':=by
  have HB:=af.mk (Below.refl w.heap.size w)
  have H:(if (a0.size:Int)≤30 then ((gV.f a0 (⟨#[97,98,99,100,101,102,103,104,105,106,107,108,109,110,111,112,113,114,115,116,117,118,119,120,121,122,48,49,50,51,52,53,54,55,56,57,45]⟩:ByteArray)).bind fun t142=>(some (t142.toList == ([]:List UInt8)))) else (some false))=some r:=h
  clear h
  by_cases c2:(a0.size:Int)≤30
  · rw [if_pos c2] at H
    have sV:decide ((a0.size:Int)≤30)=true:=decide_eq_true c2
    have zW:decide (a0.size≤30)=true:=decide_eq_true (by omega)
    clear c2
    replace H:=Option.bind_eq_some_iff.mp H
    obtain ⟨t142,FN,H⟩:=H
    replace H:(some (t142.toList == ([]:List UInt8)))=some r:=H
    have A3:=af.mk FN
    clear FN
    obtain rfl:=Option.some.inj H
    go_enter Tryz.func51,Tryz.ntmps51
    go_wp2_with (first|(go_at_call 54;(with_reducible refine (gV.calls a0 (⟨#[97,98,99,100,101,102,103,104,105,106,107,108,109,110,111,112,113,114,115,116,117,118,119,120,121,122,48,49,50,51,52,53,54,55,56,57,45]⟩:ByteArray) t142 _ A3.out).mono ?_);rintro e w4 ⟨rfl,hb⟩;have dE:=af.mk (aX (by repeat (first|(with_reducible first|exact HB.out|apply ai|apply ag|apply ah)|exact HB.out)) hb);clear HB;have HB:=dE;clear dE;(try clear hb);(try clear hb2);(try clear hk);(try clear hi)))
    go_ret
    exact ⟨by first|rfl|(simp [bF,bD] <;> rfl)|(simp [*,bF,bD] <;> rfl),by repeat (first|(with_reducible first|exact HB.out|apply ai|apply ag|apply ah)|exact HB.out)⟩
  · rw [if_neg c2] at H
    have sV:decide ((a0.size:Int)≤30)=false:=decide_eq_false c2
    have zW:decide (a0.size≤30)=false:=decide_eq_false (by omega)
    clear c2
    obtain rfl:=Option.some.inj H
    go_enter Tryz.func51,Tryz.ntmps51
    go_wp2
    go_ret
    exact ⟨by first|rfl|(simp [bF,bD] <;> rfl)|(simp [*,bF,bD] <;> rfl),by repeat (first|(with_reducible first|exact HB.out|apply ai|apply ag|apply ah)|exact HB.out)⟩
end Go.Proofs.YtkclndkbccbhaaaGreatDoor.P
end
