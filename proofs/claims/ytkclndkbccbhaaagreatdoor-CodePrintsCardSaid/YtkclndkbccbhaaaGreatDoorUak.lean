/- Parts of the proof of CodePrints: what the functions that it reaches compute, and plain facts about that. -/
import Derived.Test.YtkclndkbccbhaaaGreatDoorUah
import Derived.Test.YtkclndkbccbhaaaGreatDoorUaj
import Derived.Test.YtkclndkbccbhaaaGreatDoorTie
import Derived.WalkKit
import Derived.ProofKit
import Derived.OpenShut
import Derived.ShutString
import Derived.ChangeOld
import Derived.Below
import Derived.SliceStrings
import Derived.Deep.DeepHandedRow
import Derived.Lib.LaidTab
import Derived.Lib.SmallJoins
import Derived.LaidLaws
import Derived.Lay
import Derived.Test.YtkclndkbccbhaaaGreatDoorUac
set_option linter.unusedVariables false
set_option linter.unusedSimpArgs false
section
namespace Go.Proofs.YtkclndkbccbhaaaGreatDoor.P
open Go Go.RowKit Go.Proofs.ag.bJ Go.Proofs.ag.eX Go.Proofs.ag.gp
theorem wO {s:ByteArray} (h:nH s=true):s.data.toList.length≤30:=by
  unfold nH CW at h
  simp only [Bool.and_eq_true,decide_eq_true_eq] at h
  exact h.1
theorem toList_data (s:ByteArray):s.toList=s.data.toList:=ByteArray.toList_eq s
theorem JO {c:UInt8} (h:yt c=true):IA c=true:=by
  unfold yt at h
  unfold IA
  simp only [Bool.or_eq_true]
  exact Or.inl (Or.inr h)
theorem O8 (n:Int) (h0:-9223372036854775808≤n) (h1:n≤9223372036854775807):okw (Lib.itoa n)=true∧Lib.itoa n ≠ []:=by
  have hl:=(AQ n h0 h1).2.2
  obtain ⟨neg,hi,hs,hn1,hn2⟩:=CZ n
  have hp:=yP n.natAbs n.natAbs (Nat.le_refl _)
  constructor
  · unfold okw
    simp only [Bool.and_eq_true,decide_eq_true_eq,List.all_eq_true]
    refine ⟨by omega,fun b hb=>?_⟩
    rw [hi] at hb
    cases neg with
    | true =>
      rw [if_pos rfl] at hb
      rcases List.mem_cons.1 hb with rfl|hb
      · decide
      · exact JO (hp.1 b hb)
    | false =>
      rw [if_neg (by simp)] at hb
      exact JO (hp.1 b hb)
  · rw [hi]
    cases neg with
    | true=>rw [if_pos rfl];simp
    | false=>rw [if_neg (by simp)];exact hp.2.1
theorem OY:∀ o:Fin 16,1≤o.val→okw (nameOf o.val).data.toList=true∧(nameOf o.val).data.toList ≠ []∧(nameOf o.val).data.toList.length≤6∧(uh o.val).data.toList.length≤3:=by decide +kernel
def Wl (n:Int):Prop:=-9223372036854775808≤n∧n≤9223372036854775807
def I7 (x:jZ):Prop:=(0≤x.f1∧x.f1≤255)∧(0≤x.f2∧x.f2≤255)∧(0≤x.f3∧x.f3≤255)∧(-9223372036854775808≤x.f4∧x.f4≤9223372036854775807)
theorem arg_num {x:jZ} (h:I7 x) (ch:Nat):Wl (ru x.f1 x.f2 x.f3 x.f4 ch):=by
  obtain ⟨h1,h2,h3,h4⟩:=h
  unfold ru Wl
  split
  · omega
  · split
    · omega
    · split <;> omega
theorem OU {x:jZ} (h:jI x=true):∃ o:Fin 16,x.f0=(o.val:Int)∧x.f0.toNat=o.val∧1≤o.val:=by
  have:=CP h
  exact ⟨⟨x.f0.toNat,by omega⟩,by simp only;omega,rfl,by simp only;omega⟩
def uw (x:jZ):List (List UInt8):=(nameOf x.f0.toNat).data.toList :: (uh x.f0.toNat).data.toList.map fun ch=>Lib.itoa (ru x.f1 x.f2 x.f3 x.f4 ch.toNat)
theorem MN (x:jZ):(uw x).map Bs=qx x:=by
  unfold uw qx xE
  rw [List.map_cons,tq,List.map_map]
  rfl
theorem MM {x:jZ} (h:jI x=true) (hw:I7 x):uw x ≠ []∧(∀ w ∈ uw x,okw w=true∧w ≠ [])∧vF (uw x)≤73:=by
  obtain ⟨o,ho,hn,h1⟩:=OU h
  obtain ⟨k1,k2,k3,k4⟩:=OY o h1
  unfold uw
  rw [hn]
  refine ⟨by simp,fun w hm=>?_,?_⟩
  · rcases List.mem_cons.1 hm with rfl|hm
    · exact ⟨k1,k2⟩
    · obtain ⟨ch,_,rfl⟩:=List.mem_map.1 hm
      have:=arg_num hw ch.toNat
      exact O8 _ this.1 this.2
  · rw [mr]
    have:∀ hs:List UInt8,vF (hs.map fun ch=>Lib.itoa (ru x.f1 x.f2 x.f3 x.f4 ch.toNat))≤22 * hs.length:=by
      intro hs
      induction hs with
      | nil=>simp [vF]
      | cons ch r ih =>
        have a:=arg_num hw ch.toNat
        have:=(AQ _ a.1 a.2).2.2
        rw [List.map_cons,mr,List.length_cons]
        omega
    have:=this (uh o.val).data.toList
    omega
def FM (s:ByteArray):List (List UInt8):=[[116,121,112,101],s.data.toList]
def D6 (lo gl:ByteArray):List (List (List UInt8)):=[[[108,111,99,97,108,115],(uZ lo).data.toList],[[103,108,111,98,97,108,115],(uZ gl).data.toList]]
def LA (ts:List ByteArray) (lo gl:ByteArray) (cs:List jZ):List (List (List UInt8)):=ts.map FM++D6 lo gl++cs.map uw
theorem EX (ts:List ByteArray) (lo gl:ByteArray) (cs:List jZ):conv (LA ts lo gl cs)=xI ts lo gl cs:=by
  have h1:(ts.map FM).map (·.map Bs)=ts.map CB:=by
    rw [List.map_map]
    refine List.map_congr_left fun s _=>?_
    show [Bs _,Bs s.data.toList]=_
    rw [tq]
    rfl
  have h2:(D6 lo gl).map (·.map Bs)=yM lo gl:=by
    show [[Bs _,Bs (uZ lo).data.toList],[Bs _,Bs (uZ gl).data.toList]]=_
    rw [tq,tq]
    rfl
  have h3:(cs.map uw).map (·.map Bs)=cs.map qx:=by
    rw [List.map_map]
    exact List.map_congr_left fun x _=>MN x
  unfold conv LA xI
  rw [List.map_append,List.map_append,h1,h2,h3]
theorem FP (ts:List ByteArray) (lo gl:ByteArray) (cs:List jZ):zX ts lo gl cs=Bs (joinL (LA ts lo gl cs)):=by
  unfold zX
  rw [← EX,AP]
structure OkP (ts:List ByteArray) (lo gl:ByteArray) (cs:List jZ):Prop where
  typ:∀ s ∈ ts,Nl s=true
  ins:∀ x ∈ cs,jI x=true
  lok:nH lo=true
  gok:nH gl=true
  few:cs.length≤200
theorem Az {ts:List ByteArray} {lo gl:ByteArray} {cs:List jZ}:vP ts lo gl cs=true ↔ OkP ts lo gl cs:=by
  unfold vP
  simp only [Bool.and_eq_true,List.all_eq_true,decide_eq_true_eq]
  exact ⟨fun h=>⟨h.1,h.2.1,h.2.2.1,h.2.2.2.1,h.2.2.2.2⟩,fun h=>⟨h.typ,h.ins,h.lok,h.gok,h.few⟩⟩
theorem Gg {s:ByteArray} (h:Nl s=true):nH s=true∧s.data.toList ≠ []:=by
  unfold Nl at h
  simp only [Bool.and_eq_true,decide_eq_true_eq,toList_data] at h
  exact ⟨h.2,h.1⟩
theorem Jz (a b:List (List (List UInt8))):tot (a++b)=tot a+tot b:=by
  unfold tot
  rw [List.map_append,List.sum_append]
def sizes (ts:List ByteArray):Nat:=(ts.map fun s=>s.size+1).sum
theorem Ad (s:ByteArray) (ts:List ByteArray):sizes (s :: ts)=s.size+1+sizes ts:=by simp [sizes]
theorem wI:∀ ts:List ByteArray,(∀ s ∈ ts,Nl s=true)→tot (ts.map FM)=sizes ts+6 * ts.length∧2 * ts.length≤sizes ts
  | [],_=>⟨rfl,by decide⟩
  | s :: r,h=>by
    have ih:=wI r fun x hx=>h x (List.mem_cons_of_mem _ hx)
    have hs:=(Gg (h s (List.mem_cons_self ..))).2
    have:1≤s.size:=by
      rw [size_data]
      cases hq:s.data.toList with
      | nil=>exact absurd hq hs
      | cons a b=>simp
    rw [List.map_cons,qC,Ad,List.length_cons]
    have e:vF (FM s)=5+(s.size+1):=by
      unfold FM
      rw [mr,mr,size_data]
      simp [vF]
    omega
theorem FO:∀ cs:List jZ,(∀ x ∈ cs,jI x=true)→(∀ x ∈ cs,I7 x)→tot (cs.map uw)≤74 * cs.length
  | [],_,_=>by simp [tot]
  | x :: r,h,hw=>by
    have ih:=FO r (fun y hy=>h y (List.mem_cons_of_mem _ hy)) (fun y hy=>hw y (List.mem_cons_of_mem _ hy))
    have:=(MM (h x (List.mem_cons_self ..)) (hw x (List.mem_cons_self ..))).2.2
    rw [List.map_cons,qC,List.length_cons]
    omega
theorem G8 {s:ByteArray} (h:nH s=true):(uZ s).data.toList.length≤30:=by
  unfold uZ
  split
  · decide
  · exact wO h
theorem Ol {ts:List ByteArray} {lo gl:ByteArray} {cs:List jZ} (h:OkP ts lo gl cs) (hw:∀ x ∈ cs,I7 x) (hs:sizes ts≤500):tot (LA ts lo gl cs)≤18000:=by
  have a:=wI ts h.typ
  have b:=FO cs h.ins hw
  have c:=h.few
  have d:=G8 h.lok
  have e:=G8 h.gok
  have f:tot (D6 lo gl)≤100:=by
    unfold D6
    rw [qC,qC,mr,mr,mr,mr]
    simp only [tot,vF,List.map_nil,List.sum_nil,List.length_cons,List.length_nil]
    omega
  unfold LA
  rw [Jz,Jz]
  omega
theorem Ot {L:List (List (List UInt8))} (h:tot L≤18000):Small L :=
  ⟨by have:=JK L;omega,fun x hx=>by have:=JH hx;have:=Gm x;omega⟩
theorem SG {ts:List ByteArray} {lo gl:ByteArray} {cs:List jZ} (h:OkP ts lo gl cs) (hw:∀ x ∈ cs,I7 x) (hs:sizes ts≤500):mi.f (xI ts lo gl cs)=some (zX ts lo gl cs):=by
  have a:=Ol h hw hs
  rw [← EX,FP]
  exact Xp _ (Ot a) (by have:=Ns (LA ts lo gl cs);omega)
end Go.Proofs.YtkclndkbccbhaaaGreatDoor.P
end
section
namespace Go.Proofs.YtkclndkbccbhaaaGreatDoor.P
open Go.ChangeShapes Go.WideShapes Go.ChangeAt Go.RowKit Go.Joins Go.Proofs.ag.bJ Go.Proofs.ag.eX Go.Proofs.ag.gp
theorem own:ownKnob Tryz.prog.godebug=none:=by kernel_rfl
theorem Y2:Tryz.prog.globalNamed "lockstitch/code.ops"=some 0:=by kernel_rfl
theorem Qg:(Tryz.prog.globals[0]?).map (·.type)=some 52:=by kernel_rfl
theorem Vm:Tryz.prog.cellsOf 52=32:=by kernel_rfl
theorem cells51:Tryz.prog.cellsOf 51=2:=by kernel_rfl
theorem cells9:Tryz.prog.cellsOf 9=1:=by kernel_rfl
theorem cells5:Tryz.prog.cellsOf 5=1:=by kernel_rfl
theorem cells2:Tryz.prog.cellsOf 2=1:=by kernel_rfl
theorem cells22:Tryz.prog.cellsOf 22=1:=by kernel_rfl
theorem cells23:Tryz.prog.cellsOf 23=1:=by kernel_rfl
theorem cells25:Tryz.prog.cellsOf 25=4:=by kernel_rfl
theorem cells27:Tryz.prog.cellsOf 27=5:=by kernel_rfl
def pairs:List (List UInt8 × List UInt8):=[([],[]),([115,101,116],[97,110]),([97,100,100],[97,98,99]),([106,117,109,112],[110]),([122,101,114,111],[97,110]),([110,101,119],[97]),([110,105,108],[97]),([109,111,118,101],[97,98]),([108,111,97,100,105],[97,98,110]),([115,116,111,114,101,105],[97,110,98]),([108,111,97,100,112],[97,98,110]),([115,116,111,114,101,112],[97,110,98]),([108,111,97,100,103],[97,98]),([115,116,111,114,101,103],[97,98]),([112,114,105,110,116],[97]),([115,97,109,101],[97,98,99])]
def F7 {H:Type} (p:List UInt8 × List UInt8):DataW H:=.agg [.lit (.string p.1),.lit (.string p.2)]
def flat:List (List UInt8 × List UInt8)→List Value
  | []=>[]
  | p :: r=>.string ⟨p.1.toArray⟩ :: .string ⟨p.2.toArray⟩ :: flat r
theorem LJ:∀ (ps:List (List UInt8 × List UInt8)) (cs:List Value),cs.length=2 * ps.length →
    (∀ i p,ps[i]? = some p→cs[2 * i]? = some (.string ⟨p.1.toArray⟩)∧cs[2 * i+1]? = some (.string ⟨p.2.toArray⟩))→cs=flat ps
  | [],cs,hl,_=>by
    simp at hl
    exact hl
  | p :: r,c0 :: c1 :: cs,hl,h=>by
    obtain ⟨h0,h1⟩:=h 0 p rfl
    simp at h0 h1
    rw [LJ r cs (by simp at hl;omega) fun i q hq=>?_,h0,h1]
    · rfl
    · have:=h (i+1) q (by simpa using hq)
      rw [show 2 * (i+1)=2 * i+2 from by omega,show 2 * i+2+1=2 * i+1+2 from by omega] at this
      simpa using this
  | p :: r,[c0],hl,h=>by simp at hl;omega
  | p :: r,[],hl,h=>by simp at hl
theorem LW {s:ByteArray} {l:List UInt8} (h:s.data.toList=l):s=⟨l.toArray⟩:=by
  cases s
  subst h
  simp
theorem FQ {H:Type} {enc:TypeId × Value→H} {w:World} {base:Nat} {sp:Nat→Bool} {held:Bool} {fuel:Nat} {cs:List Value} {p:List MemPlace}
    (h:DataW.trod enc Tryz.prog w base sp held fuel 52 cs=some (.agg (pairs.map F7),p)):cs=flat pairs:=by
  cases fuel with
  | zero=>simp [DataW.trod] at h
  | succ fuel =>
    simp only [DataW.trod,Tryz.underlying52,cells51,Vm] at h
    split at h
    · rename_i hl
      obtain ⟨xs,hm,hx⟩:=Option.map_eq_some_iff.1 h
      have hxs:xs.map (·.1)=pairs.map (F7 (H:=H)):=by
        have:=congrArg Prod.fst hx
        simpa using this
      refine LJ pairs cs hl fun i q hq=>?_
      have hi:i < 16:=(List.getElem?_eq_some_iff.1 hq).1
      obtain ⟨b,hb,hf⟩:=Lib.mapM_at hm i i (by simp [hi])
      have hb1:b.1=F7 q:=by
        have:(xs.map (·.1))[i]? = some b.1:=by simp [hb]
        rw [hxs] at this
        simp [hq] at this
        exact this.symm
      obtain ⟨y0,y1,n,rfl,_,t0,t1⟩:=trod_struct2 Tryz.underlying51 hf
      simp only [cells9] at t0 t1
      obtain ⟨s0,e0,rfl,_⟩:=DataW.trod_string Tryz.underlying9 t0
      obtain ⟨s1,e1,rfl,_⟩:=DataW.trod_string Tryz.underlying9 t1
      unfold F7 at hb1
      simp at hb1
      constructor
      · have:=congrArg (·[0]?) e0
        simp [List.getElem?_drop] at this
        rw [Nat.mul_comm,this,LW hb1.1]
      · have:=congrArg (·[0]?) e1
        simp [List.getElem?_drop] at this
        rw [Nat.mul_comm,this,LW hb1.2]
    · cases h
theorem SE {H:Type}:(Rows.laid_lockstitch_code_ops:DataW H)=.agg (pairs.map F7):=rfl
theorem Qh:flat pairs=opsL.map Value.string:=rfl
noncomputable def laidAll:List (String × DataW Unit):=[("math/bits.deBruijn32tab",Rows.laid_math_bits_deBruijn32tab),("math/bits.deBruijn64tab",Rows.laid_math_bits_deBruijn64tab),("internal/strconv.uint64pow10",Rows.laid_internal_strconv_uint64pow10),("unicode/utf8.acceptRanges",Rows.laid_unicode_utf8_acceptRanges),("strconv.ErrRange",Rows.laid_strconv_ErrRange),("strconv.ErrSyntax",Rows.laid_strconv_ErrSyntax),("lockstitch/code.ops",Rows.laid_lockstitch_code_ops),("unicode/utf8.first",Rows.laid_unicode_utf8_first)]
theorem yl {P:Program} {w:World} {n:String} {d:DataW Unit}:∀ {l:List (String × DataW Unit)} {ps:List MemPlace},DataW.LaidVars P w l ps→(n,d) ∈ l →
    ∃ g t cs fuel p,P.globalNamed n=some g∧(P.globals[g]?).map (·.type)=some t∧w.var? P n=some cs∧DataW.trod (fun _=>()) P w 0 (fun _=>true) false fuel t cs.toList=some (d,p)
  | [],_,_,h=>by cases h
  | (n',d') :: r,ps,⟨g,t,cs,fuel,p,q,h1,h2,h3,h4,h5,_⟩,h=>by
    rcases List.mem_cons.1 h with e|h
    · injection e with e1 e2
      subst e1 e2
      exact ⟨g,t,cs,fuel,p,h1,h2,h3,h4⟩
    · exact yl h5 h
theorem OQ:(Rows.laid_internal_strconv_uint64pow10:DataW Unit)=Lib.tabData .u64 Lib.pow10Tab:=by kernel_rfl
theorem C9 {w:World} {n:String} {nm:String} {d:DataW Unit} {ps:List MemPlace} (h:DataW.LaidVars Tryz.prog w laidAll ps) (hm:(n,.iface nm d) ∈ laidAll) {g ti:Nat} {ms:Array (String × TypeId)}
    (hg:Tryz.prog.globalNamed n=some g) (ht:(Tryz.prog.globals[g]?).map (·.type)=some ti) (hi:Tryz.prog.underlying ti=some (.interface ms)):∃ tp p,w.var? Tryz.prog n=some #[.iface tp p]:=by
  obtain ⟨g',t',cs,fuel,p,h1,h2,h3,h4⟩:=yl h hm
  obtain rfl:=Option.some.inj (hg.symm.trans h1)
  obtain rfl:=Option.some.inj (ht.symm.trans h2)
  obtain ⟨l⟩:=cs
  obtain ⟨_,u,v,rfl,_⟩:=iface_of_trod hi h4
  exact ⟨u,v,h3⟩
theorem Qy:Tryz.prog.cellsOf 125=20:=by kernel_rfl
theorem Vl:Tryz.prog.cellsOf 96=1:=by kernel_rfl
theorem Qc:(Tryz.prog.globals[2]?).map (·.type)=some 125:=by kernel_rfl
theorem Qd:(Tryz.prog.globals[3]?).map (·.type)=some 77:=by kernel_rfl
theorem Qe:(Tryz.prog.globals[4]?).map (·.type)=some 77:=by kernel_rfl
set_option maxRecDepth 100000 in
theorem Nb {W:World} {ps:List MemPlace} (h:DataW.LaidVars Tryz.prog W laidAll ps):Kd.C Kd.string W tJ opsL.length opsL:=by
  obtain ⟨g',t',cs,fuel,p,hg',ht',hvar,hd⟩:=yl (n:="lockstitch/code.ops") (d:=Rows.laid_lockstitch_code_ops) h (.tail _ (.tail _ (.tail _ (.tail _ (.tail _ (.tail _ (.head _)))))))
  obtain rfl:=Option.some.inj (Y2.symm.trans hg')
  obtain rfl:=Option.some.inj (Qg.symm.trans ht')
  rw [SE] at hd
  have e:=FQ hd
  rw [Qh] at e
  refine ⟨rfl,by decide,fun _=>⟨_,rfl,fun j p hj=>⟨[.string p],rfl,rfl,fun i u hu=>?_⟩⟩⟩
  have hi:i=0:=by
    have:=(List.getElem?_eq_some_iff.1 hu).1
    simp at this
    exact this
  subst hi
  simp at hu
  subst hu
  have:=World.var?_cell Y2 hvar j
  show W.cell? ((⟨0,0,none⟩:Addr).add (j * 1+0))=_
  rw [show (⟨0,0,none⟩:Addr).add (j * 1+0)=⟨0,j,none⟩ from (by simp [Addr.add];omega),this,← Array.getElem?_toList,e,List.getElem?_map,hj]
  rfl
set_option maxRecDepth 100000 in
theorem table {W:World} (hL:laidMetH Tryz.prog laidAll W) (hsh:W.ShapedOpen Tryz.prog):Kd.C tu W tC lJ.length lJ:=by
  rw [MakeChecks.laidMetH_plain _ _ _ (by kernel_rfl)] at hL
  obtain ⟨ps,h,_⟩:=hL
  refine WM ⟨?_,Tryz.laysM146.s1_3 W hsh,C9 h (.tail _ (.tail _ (.tail _ (.tail _ (.tail _ (.head _)))))) Y0 Qd Tryz.underlying77,C9 h (.tail _ (.tail _ (.tail _ (.tail _ (.head _))))) Y1 Qe Tryz.underlying77,Nb h⟩
  obtain ⟨g',t',cs,fuel,p,hg',ht',hvar,hd⟩:=yl (n:="internal/strconv.uint64pow10") (d:=Rows.laid_internal_strconv_uint64pow10) h (.tail _ (.tail _ (.head _)))
  obtain rfl:=Option.some.inj (gTab.symm.trans hg')
  obtain rfl:=Option.some.inj (Qc.symm.trans ht')
  rw [OQ] at hd
  unfold Lib.TabIs
  rw [hvar,← Lib.cells_of_tab Tryz.underlying125 Tryz.underlying96 Vl Qy hd]
noncomputable def laidWorld (os:Os):World:=World.laidAll Tryz.prog os laidAll
theorem laid_met (os:Os) (args:Array Value):laidMet Tryz.prog laidAll ((laidWorld os).forCall (fun _ _=>0) ⟨#[],args,[]⟩).memory :=
  laidMet_laidAll args (by kernel_rfl) (by kernel_rfl)
theorem FH {H:Type} {t e:TypeId} {es sp:List (DataW H)} (ht:Tryz.prog.underlying t=some (.slice e)) (h:((DataW.slice es sp).weights Tryz.prog t).all (·≤reachBytes)=true):(DataW.weightsAll Tryz.prog e es).all (·≤reachBytes)=true:=by
  simp only [DataW.weights,ht,List.all_cons,List.all_append,Bool.and_eq_true] at h
  exact h.2.1
theorem zW {H:Type} {e:TypeId}:∀ (l:List ByteArray),(DataW.weightsAll Tryz.prog e (strs (H:=H) l)).all (·≤reachBytes)=true→∀ s ∈ l,s.size≤140737488355328
  | [],_,s,hs=>by cases hs
  | a :: r,h,s,hs=>by
    have rb:reachBytes=140737488351232:=by decide
    have h':((DataW.lit (H:=H) (Lit.string a.data.toList)).weights Tryz.prog e++DataW.weightsAll Tryz.prog e (strs (H:=H) r)).all (·≤reachBytes)=true:=h
    simp only [DataW.weights,List.all_append,List.all_cons,List.all_nil,Bool.and_eq_true,decide_eq_true_eq] at h'
    rcases List.mem_cons.1 hs with rfl|hs
    · rw [size_data]
      omega
    · exact zW r h'.2 s hs
theorem yY {H:Type} {t e:TypeId} {es sp:List (DataW H)} (ht:Tryz.prog.underlying t=some (.slice e)) (he:Tryz.prog.bytesOf e=16) (h:((DataW.slice es sp).weights Tryz.prog t).all (·≤reachBytes)=true):es.length≤140737488355328:=by
  have rb:reachBytes=140737488351232:=by decide
  simp only [DataW.weights,ht,he,List.all_cons,Bool.and_eq_true,decide_eq_true_eq] at h
  omega
section
variable {H:Type} {enc:TypeId × Value→H} {w:World} {base:Nat} {sp:Nat→Bool} {held:Bool}
theorem Iz {fuel:Nat} {v:Value} {x:DataW H × List MemPlace} (h:DataW.trod enc Tryz.prog w base sp held fuel 22 [v]=some x) :
    ∃ (A:Option Addr) (c:Nat) (t:List ByteArray),v=.slice A t.length c∧t.length≤c∧Kd.C Kd.string w A t.length t∧((x.1.weights Tryz.prog 22).all (·≤reachBytes)=true→t.length≤140737488355328∧∀ s ∈ t,s.size≤140737488355328):=by
  rcases open_strings Tryz.underlying22 Tryz.underlying9 cells9 h with ⟨hcs,_⟩|⟨a,len,cap,ss,hcs,_,hl,hm,hss,hx,hcell,_⟩
  · injection hcs with hcs
    subst hcs
    exact ⟨none,0,[],rfl,Nat.le_refl _,⟨rfl,by decide,fun h=>absurd h (Nat.lt_irrefl _)⟩,fun _=>⟨by simp,fun s hs=>by cases hs⟩⟩
  · injection hcs with hcs
    subst hcs
    have hle:len≤ss.length:=by rw [hss];split <;> omega
    have hlen:(ss.take len).length=len:=by rw [List.length_take];omega
    refine ⟨some a,cap,ss.take len,by rw [hlen],by rw [hlen];exact hl,⟨rfl,by rw [hlen];unfold maxLen at hm;omega,fun _=>⟨a,rfl,fun j p hj=>⟨[.string p],rfl,rfl,fun i u hu=>?_⟩⟩⟩,fun hz=>by
      rw [hx] at hz
      have:=yY Tryz.underlying22 (by kernel_rfl) hz
      have h2:(strs (H:=H) (ss.take len)).length=(ss.take len).length:=by unfold strs;rw [List.length_map]
      rw [h2] at this
      exact ⟨this,zW _ (FH Tryz.underlying22 hz)⟩⟩
    have hjl:j < len:=by
      have:=(List.getElem?_eq_some_iff.1 hj).1
      omega
    have hi:i=0:=by
      have:=(List.getElem?_eq_some_iff.1 hu).1
      simp at this
      exact this
    subst hi
    simp at hu
    subst hu
    show w.cell? (a.add (j * 1+0))=_
    rw [show j * 1+0=j from by omega,hcell j (by omega),List.getD_eq_getElem?_getD]
    rw [List.getElem?_take,if_pos hjl] at hj
    rw [hj]
    rfl
def QY (w:World) (a:Addr) (i:Nat) (x:jZ):Prop :=
  (∀ q u,([.int .u8 x.f0,.int .u8 x.f1,.int .u8 x.f2,.int .u8 x.f3,.int .i64 x.f4]:List Value)[q]? = some u→w.cell? (a.add (i * 5+q))=some u) ∧
  I7 x
theorem Pg {n:Int} (h:(Lit.int .i64 n).wf=true):-9223372036854775808≤n∧n≤9223372036854775807:=by
  simp only [Lit.wf,Bool.and_eq_true,decide_eq_true_eq] at h
  exact h
theorem Cm {n:Int} (h:(Lit.int .u8 n).wf=true):0≤n∧n≤255:=by
  simp only [Lit.wf,Bool.and_eq_true,decide_eq_true_eq] at h
  exact h
theorem N8 {w:World} {base:Nat} {a:Addr} {n:Nat} {cs:List Value} (h:w.cells? base a n=some cs):cs.length=n∧∀ q,q < n→w.cell? (a.add q)=cs[q]?:=by
  unfold World.cells? at h
  split at h
  · exact ⟨by simpa using mapM_some_length h,fun q hq=>mapM_some_get h q q (by simp [hq])⟩
  · cases h
theorem Au {cs:List Value} {k:Nat} {v:Value} (h:(cs.drop k).take 1=[v]):cs[k]? = some v:=by
  have:=congrArg (·[0]?) h
  simpa [List.getElem?_take,List.getElem?_drop] using this
theorem OT {fuel:Nat} {a:Addr} {i:Nat} {y:DataW H × List MemPlace} (h:(w.cells? base (a.add (i * 5)) 5).bind (DataW.trod enc Tryz.prog w base sp held fuel 27)=some y):∃ x,QY w a i x:=by
  rw [Option.bind_eq_some_iff] at h
  obtain ⟨cs,hc,h⟩:=h
  obtain ⟨hl,hcell⟩:=N8 hc
  obtain ⟨xs,n,_,_,_,hxl,hf⟩:=DataW.trod_struct Tryz.underlying27 h
  match xs,hxl with
  | [y0,y1,y2,y3,y4],_ =>
    have f0:DataW.trod enc Tryz.prog w base sp held n 5 ((cs.drop 0).take (Tryz.prog.cellsOf 5))=some y0:=hf 0 _ rfl
    have f1:DataW.trod enc Tryz.prog w base sp held n 5 ((cs.drop 1).take (Tryz.prog.cellsOf 5))=some y1:=hf 1 _ rfl
    have f2:DataW.trod enc Tryz.prog w base sp held n 5 ((cs.drop 2).take (Tryz.prog.cellsOf 5))=some y2:=hf 2 _ rfl
    have f3:DataW.trod enc Tryz.prog w base sp held n 5 ((cs.drop 3).take (Tryz.prog.cellsOf 5))=some y3:=hf 3 _ rfl
    have f4:DataW.trod enc Tryz.prog w base sp held n 2 ((cs.drop 4).take (Tryz.prog.cellsOf 2))=some y4:=hf 4 _ rfl
    rw [cells5] at f0 f1 f2 f3
    rw [cells2] at f4
    obtain ⟨n0,e0,_,w0⟩:=DataW.trod_int Tryz.underlying5 f0
    obtain ⟨n1,e1,_,w1⟩:=DataW.trod_int Tryz.underlying5 f1
    obtain ⟨n2,e2,_,w2⟩:=DataW.trod_int Tryz.underlying5 f2
    obtain ⟨n3,e3,_,w3⟩:=DataW.trod_int Tryz.underlying5 f3
    obtain ⟨n4,e4,_,w4⟩:=DataW.trod_int Tryz.underlying2 f4
    refine ⟨⟨n0,n1,n2,n3,n4⟩,fun q u hu=>?_,Cm w1,Cm w2,Cm w3,Pg w4⟩
    rw [← Addr.add_add]
    match q,hu with
    | 0,hu=>rw [hcell 0 (by omega),Au e0];exact hu
    | 1,hu=>rw [hcell 1 (by omega),Au e1];exact hu
    | 2,hu=>rw [hcell 2 (by omega),Au e2];exact hu
    | 3,hu=>rw [hcell 3 (by omega),Au e3];exact hu
    | 4,hu=>rw [hcell 4 (by omega),Au e4];exact hu
    | q+5,hu=>simp at hu
end
section
variable {H:Type} {enc:TypeId × Value→H} {w:World} {base:Nat} {sp:Nat→Bool} {held:Bool}
theorem Nk {fuel:Nat} {v:Value} {x:DataW H × List MemPlace} (h:DataW.trod enc Tryz.prog w base sp held fuel 23 [v]=some x) :
    ∃ (A:Option Addr) (c:Nat) (code:List jZ),v=.slice A code.length c∧code.length≤c∧Kd.C k27 w A code.length code∧Wf code∧((x.1.weights Tryz.prog 23).all (·≤reachBytes)=true→code.length≤140737488355328):=by
  rcases DataW.trod_slice Tryz.underlying23 h with ⟨hcs,_⟩|⟨a,len,cap,elems,rest,n,_,hcs,hx,_,hl,hm,hlen0,hel,_⟩
  · injection hcs with hcs
    subst hcs
    exact ⟨none,0,[],rfl,Nat.le_refl _,⟨rfl,by decide,fun h=>absurd h (Nat.lt_irrefl _)⟩,(fun _ hx=>by cases hx),fun _=>by simp⟩
  · injection hcs with hcs
    subst hcs
    have each:∀ i,∃ x:jZ,i < len→QY w a i x:=fun i=>by
      by_cases hi:i < len
      · have:=hel i hi
        rw [cells27,List.getElem?_eq_getElem (by omega)] at this
        obtain ⟨x,hx⟩:=OT this
        exact ⟨x,fun _=>hx⟩
      · exact ⟨z27,fun h=>absurd h hi⟩
    let f:=fun i=>Classical.choose (each i)
    have hf:∀ i,i < len→QY w a i (f i):=fun i=>Classical.choose_spec (each i)
    have hlen:((List.range len).map f).length=len:=by simp
    have get:∀ j p,((List.range len).map f)[j]? = some p→j < len∧p=f j:=fun j p hj=>by
      have:=(List.getElem?_eq_some_iff.1 hj).1
      rw [hlen] at this
      rw [List.getElem?_map,List.getElem?_range this] at hj
      exact ⟨this,(Option.some.inj hj).symm⟩
    refine ⟨some a,cap,(List.range len).map f,by rw [hlen],by rw [hlen];exact hl,⟨rfl,by rw [hlen];unfold maxLen at hm;omega,fun _=>⟨a,rfl,fun j p hj=>?_⟩⟩,fun y hy=>?_,fun hz=>?_⟩
    · obtain ⟨hjl,rfl⟩:=get j p hj
      exact ⟨_,rfl,Xo w (f j),(hf j hjl).1⟩
    · obtain ⟨i,hi,rfl⟩:=List.mem_map.1 hy
      exact (hf i (List.mem_range.1 hi)).2
    · rw [hx] at hz
      have:=yY Tryz.underlying23 (by kernel_rfl) hz
      rw [hlen]
      simpa [hlen0] using this
theorem FU {H:Type} {s:ByteArray} {d:DataW H} {e:TypeId} (h:d=.lit (.string s.data.toList)) (hz:(d.weights Tryz.prog e).all (·≤reachBytes)=true):s.size≤140737488355328:=by
  have rb:reachBytes=140737488351232:=by decide
  subst h
  simp only [DataW.weights,List.all_cons,List.all_nil,Bool.and_eq_true,decide_eq_true_eq] at hz
  rw [size_data]
  omega
set_option maxRecDepth 100000 in
theorem Nc {r:Reach} {b0:Nat} {v:Value} {d:DataW H} {p:List MemPlace} (hv:Value.okWide Tryz.prog w r b0 25 v) (h:DataW.Trod enc Tryz.prog w base sp held 25 v d p) (hz:(d.weights Tryz.prog 25).all (·≤reachBytes)=true) :
    ∃ (A0:Option Addr) (c0:Nat) (t:List ByteArray) (lo gl:ByteArray) (A3:Option Addr) (c3:Nat) (code:List jZ),
      v=.agg #[.slice A0 t.length c0,.string lo,.string gl,.slice A3 code.length c3] ∧
      Kd.C Kd.string w A0 t.length t∧t.length≤c0∧Kd.C k27 w A3 code.length code∧code.length≤c3∧Wf code∧t.length≤140737488355328∧code.length≤140737488355328∧(∀ s ∈ t,s.size≤140737488355328)∧lo.size≤140737488355328∧gl.size≤140737488355328:=by
  obtain ⟨cs,rfl,hsz⟩:=okWide_struct Tryz.underlying25 hv
  rw [cells25] at hsz
  obtain ⟨v0,v1,v2,v3,rfl⟩:=array4 hsz
  obtain ⟨fuel,h⟩:=h
  obtain ⟨y0,y1,y2,y3,n,he,_,f0,f1,f2,f3⟩:=trod_struct4 Tryz.underlying25 h
  injection he with he _
  subst he
  dsimp only at f0 f1 f2 f3
  rw [cells22] at f0
  rw [cells9] at f1 f2
  rw [cells23] at f3
  obtain ⟨A0,c0,t,rfl,ht,hT,z0⟩:=Iz f0
  obtain ⟨lo,e1,g1,_⟩:=DataW.trod_string Tryz.underlying9 f1
  obtain ⟨gl,e2,g2,_⟩:=DataW.trod_string Tryz.underlying9 f2
  obtain ⟨A3,c3,code,rfl,hc,hC,hw,z3⟩:=Nk f3
  have e1':v1=.string lo:=by
    have:[v1]=[Value.string lo]:=e1
    injection this
  have e2':v2=.string gl:=by
    have:[v2]=[Value.string gl]:=e2
    injection this
  subst e1' e2'
  simp only [DataW.weights,DataW.weightsEach,Tryz.underlying25,List.map,List.all_append,Bool.and_eq_true] at hz
  exact ⟨A0,c0,t,lo,gl,A3,c3,code,rfl,hT,ht,hC,hc,hw,(z0 hz.1).1,z3 hz.2.2.2.1,(z0 hz.1).2,FU (congrArg Prod.fst g1) hz.2.1,FU (congrArg Prod.fst g2) hz.2.2.1⟩
end
set_option maxRecDepth 100000 in
theorem Nh {H:Type} {enc:TypeId × Value→H} {w:World} {base:Nat} {sp:Nat→Bool} {held:Bool} {r:Reach} {b0:Nat} {v:Value} {d:DataW H} {p:List MemPlace} (hv:Value.okWide Tryz.prog w r b0 27 v) (h:DataW.Trod enc Tryz.prog w base sp held 27 v d p) :
    ∃ x:jZ,v=.agg #[.int .u8 x.f0,.int .u8 x.f1,.int .u8 x.f2,.int .u8 x.f3,.int .i64 x.f4]∧I7 x:=by
  obtain ⟨cs,rfl,hsz⟩:=okWide_struct Tryz.underlying27 hv
  rw [cells27] at hsz
  obtain ⟨l⟩:=cs
  have hl:l.length=5:=by simpa using hsz
  match l,hl with
  | [v0,v1,v2,v3,v4],_ =>
    obtain ⟨fuel,h⟩:=h
    obtain ⟨xs,n,_,_,_,hxl,hf⟩:=DataW.trod_struct Tryz.underlying27 h
    match xs,hxl with
    | [y0,y1,y2,y3,y4],_ =>
      have f0:DataW.trod enc Tryz.prog w base sp held n 5 (([v0,v1,v2,v3,v4].drop 0).take (Tryz.prog.cellsOf 5))=some y0:=hf 0 _ rfl
      have f1:DataW.trod enc Tryz.prog w base sp held n 5 (([v0,v1,v2,v3,v4].drop 1).take (Tryz.prog.cellsOf 5))=some y1:=hf 1 _ rfl
      have f2:DataW.trod enc Tryz.prog w base sp held n 5 (([v0,v1,v2,v3,v4].drop 2).take (Tryz.prog.cellsOf 5))=some y2:=hf 2 _ rfl
      have f3:DataW.trod enc Tryz.prog w base sp held n 5 (([v0,v1,v2,v3,v4].drop 3).take (Tryz.prog.cellsOf 5))=some y3:=hf 3 _ rfl
      have f4:DataW.trod enc Tryz.prog w base sp held n 2 (([v0,v1,v2,v3,v4].drop 4).take (Tryz.prog.cellsOf 2))=some y4:=hf 4 _ rfl
      rw [cells5] at f0 f1 f2 f3
      rw [cells2] at f4
      obtain ⟨n0,e0,_,w0⟩:=DataW.trod_int Tryz.underlying5 f0
      obtain ⟨n1,e1,_,w1⟩:=DataW.trod_int Tryz.underlying5 f1
      obtain ⟨n2,e2,_,w2⟩:=DataW.trod_int Tryz.underlying5 f2
      obtain ⟨n3,e3,_,w3⟩:=DataW.trod_int Tryz.underlying5 f3
      obtain ⟨n4,e4,_,w4⟩:=DataW.trod_int Tryz.underlying2 f4
      have g0:[v0]=[Value.int .u8 n0]:=e0
      have g1:[v1]=[Value.int .u8 n1]:=e1
      have g2:[v2]=[Value.int .u8 n2]:=e2
      have g3:[v3]=[Value.int .u8 n3]:=e3
      have g4:[v4]=[Value.int .i64 n4]:=e4
      injection g0 with g0
      injection g1 with g1
      injection g2 with g2
      injection g3 with g3
      injection g4 with g4
      subst g0 g1 g2 g3 g4
      exact ⟨⟨n0,n1,n2,n3,n4⟩,rfl,Cm w1,Cm w2,Cm w3,Pg w4⟩
theorem H9 {H:Type} {t:TypeId} {d:DataW H} {ts:List TypeId} {ds:List (DataW H)} (h:(DataW.weightsEach Tryz.prog (t :: ts) (d :: ds)).all (·≤reachBytes)=true):(d.weights Tryz.prog t).all (·≤reachBytes)=true∧(DataW.weightsEach Tryz.prog ts ds).all (·≤reachBytes)=true:=by
  simp only [DataW.weightsEach,List.all_append,Bool.and_eq_true] at h
  exact h
end Go.Proofs.YtkclndkbccbhaaaGreatDoor.P
end
