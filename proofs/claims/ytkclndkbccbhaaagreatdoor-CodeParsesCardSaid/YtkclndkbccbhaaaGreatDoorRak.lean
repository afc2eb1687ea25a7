/- Parts of the proof of CodeParses: what the functions that it reaches compute, and plain facts about that. -/
import Derived.Test.YtkclndkbccbhaaaGreatDoorRah
import Derived.Test.YtkclndkbccbhaaaGreatDoorRaj
import Derived.Test.YtkclndkbccbhaaaGreatDoorTie
import Derived.WalkKit
import Derived.ProofKit
import Derived.OpenShut
import Derived.ShutString
import Derived.ChangeOld
import Derived.Below
import Derived.SliceStrings
import Derived.Deep.DeepHandedRow
import Derived.Lib.LaidTab
import Derived.Lib.SmallJoins
import Derived.LaidLaws
import Derived.Lay
import Derived.Test.YtkclndkbccbhaaaGreatDoorRac
import Derived.Test.YtkclndkbccbhaaaGreatDoorRad
import Derived.Test.YtkclndkbccbhaaaGreatDoorRaf
import Derived.Test.YtkclndkbccbhaaaGreatDoorRag
set_option linter.unusedVariables false
set_option linter.unusedSimpArgs false
section
namespace Go.Proofs.YtkclndkbccbhaaaGreatDoor.P
open Go Go.RowKit Go.Proofs.ag.bK Go.Proofs.ag.dV Go.Proofs.ag.fE
theorem Om {b:UInt8} (h:BA b=true):Og b=true:=by
  unfold BA at h
  unfold Og
  simp only [Bool.or_eq_true] at h ⊢
  exact Or.inl h
theorem Oo {s:ByteArray} (h:qj s=true):s.data.toList.length≤30:=by
  unfold qj DL at h
  simp only [Bool.and_eq_true,decide_eq_true_eq] at h
  exact h.1
theorem Oq {s:ByteArray} (h:qj s=true):∀ b ∈ s.data.toList,BA b=true:=by
  unfold qj DL at h
  simp only [Bool.and_eq_true,List.all_eq_true] at h
  exact h.2
theorem toList_data (s:ByteArray):s.toList=s.data.toList:=ByteArray.toList_eq s
def YL (n:Int):Prop:=-9223372036854775808≤n∧n≤9223372036854775807
def WfI (x:jR):Prop:=(0≤x.f1∧x.f1≤255)∧(0≤x.f2∧x.f2≤255)∧(0≤x.f3∧x.f3≤255)∧(-9223372036854775808≤x.f4∧x.f4≤9223372036854775807)
structure OkP (ts:List ByteArray) (lo gl:ByteArray) (cs:List jR):Prop where
  typ:∀ s ∈ ts,okT s=true
  ins:∀ x ∈ cs,Dq x=true
  lok:qj lo=true
  gok:qj gl=true
  few:cs.length≤200
theorem OG:∀ o:Fin 16,∀ ch ∈ (pF o.val).data.toList,ch=97 ∨ ch=98 ∨ ch=99 ∨ ch=110:=by decide +kernel
theorem zk {s:ByteArray} (h:qj s=true):(45:UInt8) ∉ s.data.toList:=fun hm=>absurd (Oq h 45 hm) (by decide)
theorem yu {s:ByteArray} (h:qj s=true):strings_TrimSuffix.f (ql s) ⟨#[45]⟩=some s:=by
  unfold ql
  split
  · rename_i e
    rw [toList_data] at e
    have:s=⟨#[]⟩:=by rw [← lZ s,e];rfl
    subst this
    decide +kernel
  · rename_i e
    rw [toList_data] at e
    unfold strings_TrimSuffix.f stringslite_TrimSuffix.f stringslite_HasSuffix.f
    have h1:(⟨#[45]⟩:ByteArray).size=1:=rfl
    rw [h1]
    have hl:=Oo h
    rw [← size_data] at hl
    have h2:1≤s.size:=by
      rw [size_data]
      cases hq:s.data.toList with
      | nil=>exact absurd hq e
      | cons a b=>simp
    have h3:wrap64 ((s.size:Int) - ((1:Nat):Int))=((s.size - 1:Nat):Int):=by unfold wrap64;omega
    rw [h3,if_pos (by omega),if_pos (by omega),if_pos (by omega)]
    have h4:((s.extract ((s.size - 1:Nat):Int).toNat s.size).toList == (⟨#[45]⟩:ByteArray).toList)=false:=by
      rw [beq_eq_false_iff_ne]
      intro hq
      have hq':(s.extract (s.size - 1) s.size).toList=[45]:=hq.trans (by decide +kernel)
      rw [← lZ s,wV,lu] at hq'
      have:(45:UInt8) ∈ s.data.toList:=by
        have hm:(45:UInt8) ∈ (s.data.toList.drop ((Bs s.data.toList).size - 1)).take ((Bs s.data.toList).size - ((Bs s.data.toList).size - 1)):=by
          rw [hq']
          simp
        exact List.mem_of_mem_drop (List.mem_of_mem_take hm)
      exact zk h this
    rw [h4]
    rfl
theorem H8 (s:ByteArray) (l:List (List ByteArray)) (h:Ev (fun k=>bZ.f k s) (l,0,0)) (hl:l.length≤1000000) {r:List ByteArray × ByteArray × ByteArray × List jR × Int × Int} (hr:uZ l (l.length+1) 0 []=some r):Ev (fun k=>eG.f k s) r:=by
  unfold eG.f
  refine Ev.bind h ?_
  simp only []
  rw [if_pos trivial,if_pos hl,hr]
  exact Ev.now _
end Go.Proofs.YtkclndkbccbhaaaGreatDoor.P
end
section
namespace Go.Proofs.YtkclndkbccbhaaaGreatDoor.P
open Go.ChangeShapes Go.WideShapes Go.ChangeAt Go.RowKit Go.Joins Go.Proofs.ag.bK Go.Proofs.ag.dV Go.Proofs.ag.fE
theorem own:ownKnob Tryz.prog.godebug=none:=by kernel_rfl
theorem abZ:Tryz.prog.globalNamed "lockstitch/code.ops"=some 0:=by kernel_rfl
theorem Rt:(Tryz.prog.globals[0]?).map (·.type)=some 52:=by kernel_rfl
theorem XD:Tryz.prog.cellsOf 52=32:=by kernel_rfl
theorem cells51:Tryz.prog.cellsOf 51=2:=by kernel_rfl
theorem cells9:Tryz.prog.cellsOf 9=1:=by kernel_rfl
def pairs:List (List UInt8 × List UInt8):=[([],[]),([115,101,116],[97,110]),([97,100,100],[97,98,99]),([106,117,109,112],[110]),([122,101,114,111],[97,110]),([110,101,119],[97]),([110,105,108],[97]),([109,111,118,101],[97,98]),([108,111,97,100,105],[97,98,110]),([115,116,111,114,101,105],[97,110,98]),([108,111,97,100,112],[97,98,110]),([115,116,111,114,101,112],[97,110,98]),([108,111,97,100,103],[97,98]),([115,116,111,114,101,103],[97,98]),([112,114,105,110,116],[97]),([115,97,109,101],[97,98,99])]
def H9 {H:Type} (p:List UInt8 × List UInt8):DataW H:=.agg [.lit (.string p.1),.lit (.string p.2)]
def flat:List (List UInt8 × List UInt8)→List Value
  | []=>[]
  | p :: r=>.string ⟨p.1.toArray⟩ :: .string ⟨p.2.toArray⟩ :: flat r
theorem Nh:∀ (ps:List (List UInt8 × List UInt8)) (cs:List Value),cs.length=2 * ps.length →
    (∀ i p,ps[i]? = some p→cs[2 * i]? = some (.string ⟨p.1.toArray⟩)∧cs[2 * i+1]? = some (.string ⟨p.2.toArray⟩))→cs=flat ps
  | [],cs,hl,_=>by
    simp at hl
    exact hl
  | p :: r,c0 :: c1 :: cs,hl,h=>by
    obtain ⟨h0,h1⟩:=h 0 p rfl
    simp at h0 h1
    rw [Nh r cs (by simp at hl;omega) fun i q hq=>?_,h0,h1]
    · rfl
    · have:=h (i+1) q (by simpa using hq)
      rw [show 2 * (i+1)=2 * i+2 from by omega,show 2 * i+2+1=2 * i+1+2 from by omega] at this
      simpa using this
  | p :: r,[c0],hl,h=>by simp at hl;omega
  | p :: r,[],hl,h=>by simp at hl
theorem Nu {s:ByteArray} {l:List UInt8} (h:s.data.toList=l):s=⟨l.toArray⟩:=by
  cases s
  subst h
  simp
theorem Hl {H:Type} {enc:TypeId × Value→H} {w:World} {base:Nat} {sp:Nat→Bool} {held:Bool} {fuel:Nat} {cs:List Value} {p:List MemPlace}
    (h:DataW.trod enc Tryz.prog w base sp held fuel 52 cs=some (.agg (pairs.map H9),p)):cs=flat pairs:=by
  cases fuel with
  | zero=>simp [DataW.trod] at h
  | succ fuel =>
    simp only [DataW.trod,Tryz.underlying52,cells51,XD] at h
    split at h
    · rename_i hl
      obtain ⟨xs,hm,hx⟩:=Option.map_eq_some_iff.1 h
      have hxs:xs.map (·.1)=pairs.map (H9 (H:=H)):=by
        have:=congrArg Prod.fst hx
        simpa using this
      refine Nh pairs cs hl fun i q hq=>?_
      have hi:i < 16:=(List.getElem?_eq_some_iff.1 hq).1
      obtain ⟨b,hb,hf⟩:=Lib.mapM_at hm i i (by simp [hi])
      have hb1:b.1=H9 q:=by
        have:(xs.map (·.1))[i]? = some b.1:=by simp [hb]
        rw [hxs] at this
        simp [hq] at this
        exact this.symm
      obtain ⟨y0,y1,n,rfl,_,t0,t1⟩:=trod_struct2 Tryz.underlying51 hf
      simp only [cells9] at t0 t1
      obtain ⟨s0,e0,rfl,_⟩:=DataW.trod_string Tryz.underlying9 t0
      obtain ⟨s1,e1,rfl,_⟩:=DataW.trod_string Tryz.underlying9 t1
      unfold H9 at hb1
      simp at hb1
      constructor
      · have:=congrArg (·[0]?) e0
        simp [List.getElem?_drop] at this
        rw [Nat.mul_comm,this,Nu hb1.1]
      · have:=congrArg (·[0]?) e1
        simp [List.getElem?_drop] at this
        rw [Nat.mul_comm,this,Nu hb1.2]
    · cases h
theorem Uo {H:Type}:(Rows.laid_lockstitch_code_ops:DataW H)=.agg (pairs.map H9):=rfl
theorem Ru:flat pairs=opsL.map Value.string:=rfl
noncomputable def laidAll:List (String × DataW Unit):=[("math/bits.deBruijn32tab",Rows.laid_math_bits_deBruijn32tab),("math/bits.deBruijn64tab",Rows.laid_math_bits_deBruijn64tab),("internal/strconv.uint64pow10",Rows.laid_internal_strconv_uint64pow10),("unicode/utf8.acceptRanges",Rows.laid_unicode_utf8_acceptRanges),("strconv.ErrRange",Rows.laid_strconv_ErrRange),("strconv.ErrSyntax",Rows.laid_strconv_ErrSyntax),("lockstitch/code.ops",Rows.laid_lockstitch_code_ops),("unicode/utf8.first",Rows.laid_unicode_utf8_first)]
theorem zS {P:Program} {w:World} {n:String} {d:DataW Unit}:∀ {l:List (String × DataW Unit)} {ps:List MemPlace},DataW.LaidVars P w l ps→(n,d) ∈ l →
    ∃ g t cs fuel p,P.globalNamed n=some g∧(P.globals[g]?).map (·.type)=some t∧w.var? P n=some cs∧DataW.trod (fun _=>()) P w 0 (fun _=>true) false fuel t cs.toList=some (d,p)
  | [],_,_,h=>by cases h
  | (n',d') :: r,ps,⟨g,t,cs,fuel,p,q,h1,h2,h3,h4,h5,_⟩,h=>by
    rcases List.mem_cons.1 h with e|h
    · injection e with e1 e2
      subst e1 e2
      exact ⟨g,t,cs,fuel,p,h1,h2,h3,h4⟩
    · exact zS h5 h
theorem P5:(Rows.laid_internal_strconv_uint64pow10:DataW Unit)=Lib.tabData .u64 Lib.pow10Tab:=by kernel_rfl
theorem E8 {w:World} {n:String} {nm:String} {d:DataW Unit} {ps:List MemPlace} (h:DataW.LaidVars Tryz.prog w laidAll ps) (hm:(n,.iface nm d) ∈ laidAll) {g ti:Nat} {ms:Array (String × TypeId)}
    (hg:Tryz.prog.globalNamed n=some g) (ht:(Tryz.prog.globals[g]?).map (·.type)=some ti) (hi:Tryz.prog.underlying ti=some (.interface ms)):∃ tp p,w.var? Tryz.prog n=some #[.iface tp p]:=by
  obtain ⟨g',t',cs,fuel,p,h1,h2,h3,h4⟩:=zS h hm
  obtain rfl:=Option.some.inj (hg.symm.trans h1)
  obtain rfl:=Option.some.inj (ht.symm.trans h2)
  obtain ⟨l⟩:=cs
  obtain ⟨_,u,v,rfl,_⟩:=iface_of_trod hi h4
  exact ⟨u,v,h3⟩
theorem RN:Tryz.prog.cellsOf 125=20:=by kernel_rfl
theorem XC:Tryz.prog.cellsOf 96=1:=by kernel_rfl
theorem Rn:(Tryz.prog.globals[2]?).map (·.type)=some 125:=by kernel_rfl
theorem Ro:(Tryz.prog.globals[3]?).map (·.type)=some 77:=by kernel_rfl
theorem Rq:(Tryz.prog.globals[4]?).map (·.type)=some 77:=by kernel_rfl
set_option maxRecDepth 100000 in
theorem Oe {W:World} {ps:List MemPlace} (h:DataW.LaidVars Tryz.prog W laidAll ps):Kd.C Kd.string W uQ opsL.length opsL:=by
  obtain ⟨g',t',cs,fuel,p,hg',ht',hvar,hd⟩:=zS (n:="lockstitch/code.ops") (d:=Rows.laid_lockstitch_code_ops) h (.tail _ (.tail _ (.tail _ (.tail _ (.tail _ (.tail _ (.head _)))))))
  obtain rfl:=Option.some.inj (abZ.symm.trans hg')
  obtain rfl:=Option.some.inj (Rt.symm.trans ht')
  rw [Uo] at hd
  have e:=Hl hd
  rw [Ru] at e
  refine ⟨rfl,by decide,fun _=>⟨_,rfl,fun j p hj=>⟨[.string p],rfl,rfl,fun i u hu=>?_⟩⟩⟩
  have hi:i=0:=by
    have:=(List.getElem?_eq_some_iff.1 hu).1
    simp at this
    exact this
  subst hi
  simp at hu
  subst hu
  have:=World.var?_cell abZ hvar j
  show W.cell? ((⟨0,0,none⟩:Addr).add (j * 1+0))=_
  rw [show (⟨0,0,none⟩:Addr).add (j * 1+0)=⟨0,j,none⟩ from (by simp [Addr.add];omega),this,← Array.getElem?_toList,e,List.getElem?_map,hj]
  rfl
set_option maxRecDepth 100000 in
theorem table {W:World} (hL:laidMetH Tryz.prog laidAll W) (hsh:W.ShapedOpen Tryz.prog):Kd.C xE W xG oL.length oL:=by
  rw [MakeChecks.laidMetH_plain _ _ _ (by kernel_rfl)] at hL
  obtain ⟨ps,h,_⟩:=hL
  refine Y9 ⟨?_,Tryz.laysM146.s1_3 W hsh,E8 h (.tail _ (.tail _ (.tail _ (.tail _ (.tail _ (.head _)))))) abX Ro Tryz.underlying77,E8 h (.tail _ (.tail _ (.tail _ (.tail _ (.head _))))) abY Rq Tryz.underlying77,Oe h⟩
  obtain ⟨g',t',cs,fuel,p,hg',ht',hvar,hd⟩:=zS (n:="internal/strconv.uint64pow10") (d:=Rows.laid_internal_strconv_uint64pow10) h (.tail _ (.tail _ (.head _)))
  obtain rfl:=Option.some.inj (gTab.symm.trans hg')
  obtain rfl:=Option.some.inj (Rn.symm.trans ht')
  rw [P5] at hd
  unfold Lib.TabIs
  rw [hvar,← Lib.cells_of_tab Tryz.underlying125 Tryz.underlying96 XC RN hd]
noncomputable def laidWorld (os:Os):World:=World.laidAll Tryz.prog os laidAll
theorem laid_met (os:Os) (args:Array Value):laidMet Tryz.prog laidAll ((laidWorld os).forCall (fun _ _=>0) ⟨#[],args,[]⟩).memory :=
  laidMet_laidAll args (by kernel_rfl) (by kernel_rfl)
section
variable {H:Type} {enc:TypeId × Value→H} {w:World} {base:Nat} {sp:Nat→Bool} {held:Bool}
end
section
variable {H:Type} {enc:TypeId × Value→H} {w:World} {base:Nat} {sp:Nat→Bool} {held:Bool}
end
end Go.Proofs.YtkclndkbccbhaaaGreatDoor.P
end
section
namespace Go.Proofs.YtkclndkbccbhaaaGreatDoor.P
open Go.RowKit Go.Proofs.ag.bK Go.Proofs.ag.dV Go.Proofs.ag.fE
attribute [local go_sem] lI lG ny ni jW jV lH lF
attribute [local go_sem high] Nk
def dO.f (k:Nat) :Option (Bool):=(eG.f k (⟨#[116,121,112,101,32,105,10,108,111,99,97,108,115,32,48,10,103,108,111,98,97,108,115,32,45,10,110,101,119,32,48,10,115,116,111,114,101,105,32,48,32,48,32,51,10]⟩:ByteArray)).bind fun kK=>((bW.f k kK.1 kK.2.1 kK.2.2.1 kK.2.2.2.1).bind fun BO=>((eG.f k (⟨#[108,111,99,97,108,115,32,48,10]⟩:ByteArray)).bind fun xR=>(if kK.2.2.2.2.2=0 then (if kK.2.2.2.2.1=0 then (if (kK.2.2.2.1.length:Int)=2 then (if 1 < (kK.2.2.2.1.length:Int) then (if (((aU kK.2.2.2.1 1).f0) == 9 && (((aU kK.2.2.2.1 1).f1) == 0 && (((aU kK.2.2.2.1 1).f2) == 3 && (((aU kK.2.2.2.1 1).f3) == 0 && (((aU kK.2.2.2.1 1).f4) == 0)))))=true then (if BO.2=0 then (if BO.1.toList=([116,121,112,101,32,105,10,108,111,99,97,108,115,32,48,10,103,108,111,98,97,108,115,32,45,10,110,101,119,32,48,10,115,116,111,114,101,105,32,48,32,48,32,51,10]:List UInt8) then (if xR.2.2.2.2.1=2 then (if xR.2.2.2.2.2=4 then ((ig.f ((aU kK.2.2.2.1 1).f0) ((aU kK.2.2.2.1 1).f1) ((aU kK.2.2.2.1 1).f2) ((aU kK.2.2.2.1 1).f3) ((aU kK.2.2.2.1 1).f4)).bind fun t189=>(if t189=true then ((ig.f 0 0 0 0 0).bind fun t190=>(some (!t190))) else (some false))) else (some false)) else (some false)) else (some false)) else (some false)) else (some false)) else (none)) else (some false)) else (some false)) else (some false))))
theorem JU {α:Type} {g:Nat→Option α} {a b:α} (hg:∀ k,dC (g k) (g (k+1))) {k k':Nat} (h:g k=some a) (h':g k'=some b):a=b:=by
  obtain ⟨K,hK⟩:=Ev.of hg h
  obtain ⟨K',hK'⟩:=Ev.of hg h'
  exact Option.some.inj ((hK (max K K') (Nat.le_max_left _ _)).symm.trans (hK' _ (Nat.le_max_right _ _)))
theorem xU {k:Nat} {r:List ByteArray × ByteArray × ByteArray × List jR × Int × Int} (h:eG.f k (⟨#[116,121,112,101,32,105,10,108,111,99,97,108,115,32,48,10,103,108,111,98,97,108,115,32,45,10,110,101,119,32,48,10,115,116,111,114,101,105,32,48,32,48,32,51,10]⟩:ByteArray)=some r):r=(([⟨#[105]⟩]:List ByteArray),(⟨#[48]⟩:ByteArray),(⟨#[]⟩:ByteArray),([⟨5,0,0,0,0⟩,⟨9,0,3,0,0⟩]:List jR),0,0) :=
  JU (fun q=>eG.mono _ q) h (show eG.f 300 (⟨#[116,121,112,101,32,105,10,108,111,99,97,108,115,32,48,10,103,108,111,98,97,108,115,32,45,10,110,101,119,32,48,10,115,116,111,114,101,105,32,48,32,48,32,51,10]⟩:ByteArray)=some (([⟨#[105]⟩]:List ByteArray),(⟨#[48]⟩:ByteArray),(⟨#[]⟩:ByteArray),([⟨5,0,0,0,0⟩,⟨9,0,3,0,0⟩]:List jR),0,0) by kernel_rfl)
theorem Su {k:Nat} {r:ByteArray × Int} (h:bW.f k ([⟨#[105]⟩]:List ByteArray) (⟨#[48]⟩:ByteArray) (⟨#[]⟩:ByteArray) ([⟨5,0,0,0,0⟩,⟨9,0,3,0,0⟩]:List jR)=some r):r=((⟨#[116,121,112,101,32,105,10,108,111,99,97,108,115,32,48,10,103,108,111,98,97,108,115,32,45,10,110,101,119,32,48,10,115,116,111,114,101,105,32,48,32,48,32,51,10]⟩:ByteArray),0) :=
  JU (fun q=>bW.mono _ _ _ _ q) h (show bW.f 300 ([⟨#[105]⟩]:List ByteArray) (⟨#[48]⟩:ByteArray) (⟨#[]⟩:ByteArray) ([⟨5,0,0,0,0⟩,⟨9,0,3,0,0⟩]:List jR)=some ((⟨#[116,121,112,101,32,105,10,108,111,99,97,108,115,32,48,10,103,108,111,98,97,108,115,32,45,10,110,101,119,32,48,10,115,116,111,114,101,105,32,48,32,48,32,51,10]⟩:ByteArray),0) by kernel_rfl)
theorem I4 {k:Nat} {r:List ByteArray × ByteArray × ByteArray × List jR × Int × Int} (h:eG.f k (⟨#[108,111,99,97,108,115,32,48,10]⟩:ByteArray)=some r):r.2.2.2.2=(2,4):=by
  rw [JU (fun q=>eG.mono _ q) h (show eG.f 300 (⟨#[108,111,99,97,108,115,32,48,10]⟩:ByteArray)=some ([],(⟨#[]⟩:ByteArray),(⟨#[]⟩:ByteArray),[],2,4) by kernel_rfl)]
theorem XK {r:Bool} (h:ig.f 9 0 3 0 0=some r):r=true:=Option.some.inj (h.symm.trans (show ig.f 9 0 3 0 0=some true by kernel_rfl))
theorem dO.mono:∀ k,dC (dO.f k ) (dO.f (k+1) ):=by
  intro  k
  unfold dO.f
  repeat' first
      | (with_reducible exact eG.mono _ _)
      | (with_reducible exact bW.mono _ _ _ _ _)
      | (with_reducible exact dC.refl _)
      | (with_reducible exact dC.none _)
      | (with_reducible refine dC.ite ?_ ?_)
      | (with_reducible refine dC.bind ?_ (fun _=>?_))
      | exact eG.mono _ _
      | exact bW.mono _ _ _ _ _
      | exact dC.none _
      | refine dC.ite ?_ ?_
      | refine dC.bind ?_ (fun _=>?_)
set_option maxHeartbeats 8000000 in
set_option maxRecDepth 100000 in
theorem dO.calls (k:Nat)  (r:Bool) (w:World) (lC:Kd.C xE w xG oL.length oL) (h:dO.f k =some r) :
    Calls Tryz.prog 7 #[] w fun e w'=>e=.returned (.bool r)∧Below w.heap.size w w':=by
  have Qq:=Tryz.underlying25
  have Oz:=Tryz.underlying27
  have Ai:=ae.mk lC
  clear lC
  have HB:=ae.mk (Below.refl w.heap.size w)
  have H:((eG.f k (⟨#[116,121,112,101,32,105,10,108,111,99,97,108,115,32,48,10,103,108,111,98,97,108,115,32,45,10,110,101,119,32,48,10,115,116,111,114,101,105,32,48,32,48,32,51,10]⟩:ByteArray)).bind fun kK=>((bW.f k kK.1 kK.2.1 kK.2.2.1 kK.2.2.2.1).bind fun BO=>((eG.f k (⟨#[108,111,99,97,108,115,32,48,10]⟩:ByteArray)).bind fun xR=>(if kK.2.2.2.2.2=0 then (if kK.2.2.2.2.1=0 then (if (kK.2.2.2.1.length:Int)=2 then (if 1 < (kK.2.2.2.1.length:Int) then (if (((aU kK.2.2.2.1 1).f0) == 9 && (((aU kK.2.2.2.1 1).f1) == 0 && (((aU kK.2.2.2.1 1).f2) == 3 && (((aU kK.2.2.2.1 1).f3) == 0 && (((aU kK.2.2.2.1 1).f4) == 0)))))=true then (if BO.2=0 then (if BO.1.toList=([116,121,112,101,32,105,10,108,111,99,97,108,115,32,48,10,103,108,111,98,97,108,115,32,45,10,110,101,119,32,48,10,115,116,111,114,101,105,32,48,32,48,32,51,10]:List UInt8) then (if xR.2.2.2.2.1=2 then (if xR.2.2.2.2.2=4 then ((ig.f ((aU kK.2.2.2.1 1).f0) ((aU kK.2.2.2.1 1).f1) ((aU kK.2.2.2.1 1).f2) ((aU kK.2.2.2.1 1).f3) ((aU kK.2.2.2.1 1).f4)).bind fun t189=>(if t189=true then ((ig.f 0 0 0 0 0).bind fun t190=>(some (!t190))) else (some false))) else (some false)) else (some false)) else (some false)) else (some false)) else (some false)) else (none)) else (some false)) else (some false)) else (some false)))))=some r:=h
  clear h
  replace H:=Option.bind_eq_some_iff.mp H
  obtain ⟨⟨t163,t166,t167,t168,t171,t172⟩,A10,H⟩:=H
  replace H:((bW.f k t163 t166 t167 t168).bind fun BO=>((eG.f k (⟨#[108,111,99,97,108,115,32,48,10]⟩:ByteArray)).bind fun xR=>(if t172=0 then (if t171=0 then (if (t168.length:Int)=2 then (if 1 < (t168.length:Int) then (if (((aU t168 1).f0) == 9 && (((aU t168 1).f1) == 0 && (((aU t168 1).f2) == 3 && (((aU t168 1).f3) == 0 && (((aU t168 1).f4) == 0)))))=true then (if BO.2=0 then (if BO.1.toList=([116,121,112,101,32,105,10,108,111,99,97,108,115,32,48,10,103,108,111,98,97,108,115,32,45,10,110,101,119,32,48,10,115,116,111,114,101,105,32,48,32,48,32,51,10]:List UInt8) then (if xR.2.2.2.2.1=2 then (if xR.2.2.2.2.2=4 then ((ig.f ((aU t168 1).f0) ((aU t168 1).f1) ((aU t168 1).f2) ((aU t168 1).f3) ((aU t168 1).f4)).bind fun t189=>(if t189=true then ((ig.f 0 0 0 0 0).bind fun t190=>(some (!t190))) else (some false))) else (some false)) else (some false)) else (some false)) else (some false)) else (some false)) else (none)) else (some false)) else (some false)) else (some false))))=some r:=H
  have A1:=ae.mk A10
  clear A10
  replace H:=Option.bind_eq_some_iff.mp H
  obtain ⟨⟨t174,t175⟩,NQ,H⟩:=H
  replace H:((eG.f k (⟨#[108,111,99,97,108,115,32,48,10]⟩:ByteArray)).bind fun xR=>(if t172=0 then (if t171=0 then (if (t168.length:Int)=2 then (if 1 < (t168.length:Int) then (if (((aU t168 1).f0) == 9 && (((aU t168 1).f1) == 0 && (((aU t168 1).f2) == 3 && (((aU t168 1).f3) == 0 && (((aU t168 1).f4) == 0)))))=true then (if t175=0 then (if t174.toList=([116,121,112,101,32,105,10,108,111,99,97,108,115,32,48,10,103,108,111,98,97,108,115,32,45,10,110,101,119,32,48,10,115,116,111,114,101,105,32,48,32,48,32,51,10]:List UInt8) then (if xR.2.2.2.2.1=2 then (if xR.2.2.2.2.2=4 then ((ig.f ((aU t168 1).f0) ((aU t168 1).f1) ((aU t168 1).f2) ((aU t168 1).f3) ((aU t168 1).f4)).bind fun t189=>(if t189=true then ((ig.f 0 0 0 0 0).bind fun t190=>(some (!t190))) else (some false))) else (some false)) else (some false)) else (some false)) else (some false)) else (some false)) else (none)) else (some false)) else (some false)) else (some false)))=some r:=H
  have A2:=ae.mk NQ
  clear NQ
  replace H:=Option.bind_eq_some_iff.mp H
  obtain ⟨⟨t176,t179,t180,t181,t184,t185⟩,Jg,H⟩:=H
  replace H:(if t172=0 then (if t171=0 then (if (t168.length:Int)=2 then (if 1 < (t168.length:Int) then (if (((aU t168 1).f0) == 9 && (((aU t168 1).f1) == 0 && (((aU t168 1).f2) == 3 && (((aU t168 1).f3) == 0 && (((aU t168 1).f4) == 0)))))=true then (if t175=0 then (if t174.toList=([116,121,112,101,32,105,10,108,111,99,97,108,115,32,48,10,103,108,111,98,97,108,115,32,45,10,110,101,119,32,48,10,115,116,111,114,101,105,32,48,32,48,32,51,10]:List UInt8) then (if t184=2 then (if t185=4 then ((ig.f ((aU t168 1).f0) ((aU t168 1).f1) ((aU t168 1).f2) ((aU t168 1).f3) ((aU t168 1).f4)).bind fun t189=>(if t189=true then ((ig.f 0 0 0 0 0).bind fun t190=>(some (!t190))) else (some false))) else (some false)) else (some false)) else (some false)) else (some false)) else (some false)) else (none)) else (some false)) else (some false)) else (some false))=some r:=H
  have A3:=ae.mk Jg
  clear Jg
  by_cases c4:t172=0
  · rw [if_pos c4] at H
    have uo:(t172 == 0)=true:=beq_iff_eq.mpr c4
    have wY:(t172 != 0)=false:=bne_eq_false_iff_eq.mpr c4
    clear c4
    by_cases c5:t171=0
    · rw [if_pos c5] at H
      have wX:(t171 == 0)=true:=beq_iff_eq.mpr c5
      have GR:(t171 != 0)=false:=bne_eq_false_iff_eq.mpr c5
      clear c5
      by_cases c6:(t168.length:Int)=2
      · rw [if_pos c6] at H
        have oP:((t168.length:Int) == 2)=true:=beq_iff_eq.mpr c6
        have zx:((t168.length:Int) != 2)=false:=bne_eq_false_iff_eq.mpr c6
        clear c6
        by_cases c7:1 < (t168.length:Int)
        · rw [if_pos c7] at H
          have qR:decide (1 < (t168.length:Int))=true:=decide_eq_true c7
          have xy:decide (1 < t168.length)=true:=decide_eq_true (by omega)
          clear c7
          by_cases c8:(((aU t168 1).f0) == 9 && (((aU t168 1).f1) == 0 && (((aU t168 1).f2) == 3 && (((aU t168 1).f3) == 0 && (((aU t168 1).f4) == 0)))))=true
          · rw [if_pos c8] at H
            have ry:(((aU t168 1).f0) == 9 && (((aU t168 1).f1) == 0 && (((aU t168 1).f2) == 3 && (((aU t168 1).f3) == 0 && (((aU t168 1).f4) == 0)))))=true:=c8
            (try (have Be:decide (((aU t168 1).f0)=9 && (((aU t168 1).f1) == 0 && (((aU t168 1).f2) == 3 && (((aU t168 1).f3) == 0 && (((aU t168 1).f4) == 0)))))=true:=by simpa using c8))
            (try (have anF:(((aU t168 1).f0) == 9 && (((aU t168 1).f1) == 0 && (((aU t168 1).f2) == 3 && (((aU t168 1).f3) == 0 && (((aU t168 1).f4) == 0)))))=true:=by simpa using c8))
            clear c8
            by_cases c9:t175=0
            · rw [if_pos c9] at H
              have EF:(t175 == 0)=true:=beq_iff_eq.mpr c9
              have JV:(t175 != 0)=false:=bne_eq_false_iff_eq.mpr c9
              clear c9
              by_cases c10:t174.toList=([116,121,112,101,32,105,10,108,111,99,97,108,115,32,48,10,103,108,111,98,97,108,115,32,45,10,110,101,119,32,48,10,115,116,111,114,101,105,32,48,32,48,32,51,10]:List UInt8)
              · rw [if_pos c10] at H
                have mM:(t174.toList == ([116,121,112,101,32,105,10,108,111,99,97,108,115,32,48,10,103,108,111,98,97,108,115,32,45,10,110,101,119,32,48,10,115,116,111,114,101,105,32,48,32,48,32,51,10]:List UInt8))=true:=beq_iff_eq.mpr c10
                have ui:(t174.toList != ([116,121,112,101,32,105,10,108,111,99,97,108,115,32,48,10,103,108,111,98,97,108,115,32,45,10,110,101,119,32,48,10,115,116,111,114,101,105,32,48,32,48,32,51,10]:List UInt8))=false:=bne_eq_false_iff_eq.mpr c10
                clear c10
                by_cases c11:t184=2
                · rw [if_pos c11] at H
                  have uF:(t184 == 2)=true:=beq_iff_eq.mpr c11
                  have BK:(t184 != 2)=false:=bne_eq_false_iff_eq.mpr c11
                  clear c11
                  by_cases c12:t185=4
                  · rw [if_pos c12] at H
                    have BJ:(t185 == 4)=true:=beq_iff_eq.mpr c12
                    have al5:(t185 != 4)=false:=bne_eq_false_iff_eq.mpr c12
                    clear c12
                    replace H:=Option.bind_eq_some_iff.mp H
                    obtain ⟨t189,adM,H⟩:=H
                    replace H:(if t189=true then ((ig.f 0 0 0 0 0).bind fun t190=>(some (!t190))) else (some false))=some r:=H
                    have A13:=ae.mk adM
                    clear adM
                    by_cases c14:t189=true
                    · subst c14
                      have H1:((ig.f 0 0 0 0 0).bind fun t190=>(some (!t190)))=some r:=by rw [if_pos rfl] at H;exact H
                      clear H
                      have H:=H1
                      clear H1
                      replace H:=Option.bind_eq_some_iff.mp H
                      obtain ⟨t190,adK,H⟩:=H
                      replace H:(some (!t190))=some r:=H
                      have A15:=ae.mk adK
                      clear adK
                      obtain rfl:=Option.some.inj H
                      go_enter Tryz.func7,Tryz.ntmps7
                      go_wp2_with (first|((with_reducible refine bQ (f:=13) rfl ?_);refine fZ (some 12) rfl rfl Tryz.func13 (by kernel_rfl) rfl #[.string (⟨#[116,121,112,101,32,105,10,108,111,99,97,108,115,32,48,10,103,108,111,98,97,108,115,32,45,10,110,101,119,32,48,10,115,116,111,114,101,105,32,48,32,48,32,51,10]⟩:ByteArray)] rfl (by (try simp only [List.map_toArray,List.map_cons,List.map_nil]);first|done|rfl|(simp only [List.length_drop,List.length_take];rfl)) ?_;(with_reducible refine (eG.calls k (⟨#[116,121,112,101,32,105,10,108,111,99,97,108,115,32,48,10,103,108,111,98,97,108,115,32,45,10,110,101,119,32,48,10,115,116,111,114,101,105,32,48,32,48,32,51,10]⟩:ByteArray) t163 t166 t167 t168 t171 t172 _ ?gV A1.out).mono ?_);(case gV=>repeat (first|exact Ai.out|(with_reducible refine Kd.gZ ?_ _)|(with_reducible refine Kd.gX ?_ _)|(with_reducible refine Kd.jb ?_)));rintro e w16 ⟨v164,amN,rfl,ho0,ho1,hb⟩;refine ⟨_,rfl,?_⟩;have dG:=ae.mk (Kd.iW ho0 (aZ (by repeat (first|(with_reducible first|exact HB.out|apply au|apply af|apply aj)|exact HB.out))));have dM:=ae.mk (Kd.iW ho1 (aZ (by repeat (first|(with_reducible first|exact HB.out|apply au|apply af|apply aj)|exact HB.out))));have dW:=ae.mk (bf (by repeat (first|(with_reducible first|exact HB.out|apply au|apply af|apply aj)|exact HB.out)) hb);clear HB;have pI:=dG;have lQ:=dM;have HB:=dW;clear dG dM dW;(try clear hb);(try clear hb2);(try clear hk);(try clear hi);(try clear ho0);(try clear ho1))|((with_reducible refine fF (N:=2) rfl ?_);(try (refine iU (by rfl) ?_;dsimp only));refine gu ?hg (N:=2) ?hd (cs:=#[.slice none 0 0,.string (⟨#[]⟩:ByteArray),.string (⟨#[]⟩:ByteArray),.slice none 0 0]) (t:=25) ?hr ?_;(case hd=>rfl);(case hg=>rfl);(case hr=>first|(go_simp;done)|(go_simp;rfl));intro kX hg w17 hbox hb;have dG:=ae.mk (Kd.dD (by (with_reducible repeat (first|apply Kd.aX|apply Kd.aY|apply Kd.bG));exact pI.out) hb);have dM:=ae.mk (Kd.dD (by (with_reducible repeat (first|apply Kd.aX|apply Kd.aY|apply Kd.bG));exact lQ.out) hb);have dW:=ae.mk (bf (by repeat (first|(with_reducible first|exact HB.out|apply au|apply af|apply aj)|exact HB.out)) hb);have fK:=ae.mk (hbox);have iO:=ae.mk ((by rw [hg];exact (aZ (by repeat (first|(with_reducible first|exact HB.out|apply au|apply af|apply aj)|exact HB.out))):w.heap.size≤kX));have jE:=ae.mk ((by rw [hg];exact (aZ (by repeat (first|(with_reducible first|exact HB.out|apply au|apply af|apply aj)|exact HB.out))):w.heap.size≤kX));clear pI;clear lQ;clear HB;have pI:=dG;have lQ:=dM;have HB:=dW;have kM:=fK;have amq:=iO;have xn:=jE;clear dG dM dW fK iO jE;clear hb hbox hg;obtain ⟨yc,xx,aad⟩:=Kd.gI pI.out;subst aad;have MV:w17.cell? ⟨kX,0,none⟩=some (.slice none 0 0):=(ax kM.out 0).trans rfl;have MS:w17.cell? ⟨kX,1,none⟩=some (.string (⟨#[]⟩:ByteArray)):=(ax kM.out 1).trans rfl;have MR:w17.cell? ⟨kX,2,none⟩=some (.string (⟨#[]⟩:ByteArray)):=(ax kM.out 2).trans rfl;have MQ:w17.cell? ⟨kX,3,none⟩=some (.slice none 0 0):=(ax kM.out 3).trans rfl;have L9:=ay kM.out 0;have L8:=ay kM.out 1;have L6:=ay kM.out 2;have LZ:=ay kM.out 3;obtain ⟨Em,Ad,aj2⟩:=Kd.gI lQ.out;subst aj2)|((with_reducible refine bQ (f:=9) rfl ?_);refine fZ (some 18) rfl rfl Tryz.func9 (by kernel_rfl) rfl #[.agg #[.slice yc t163.length xx,.string t166,.string t167,.slice Em t168.length Ad]] rfl (by (try simp only [List.map_toArray,List.map_cons,List.map_nil]);first|done|rfl|(simp only [List.length_drop,List.length_take];rfl)) ?_;(with_reducible refine (bW.calls k _ _ t163 t166 t167 _ _ t168 t174 t175 _ ?gV ?lD ?xJ ?xI ?xH A2.out).mono ?_);(case gV=>refine (Kd.fB (e:=9) (base:=w.heap.size) (ok:=fun k_=>True) (n:=t163.length) (c:=xx) ?_).2.2;exact (by (with_reducible repeat (first|apply Kd.aX|apply Kd.aY|apply Kd.bG));exact (Kd.dm (Kd.bI (p:=⟨kX,3,none⟩) (Kd.bI (p:=⟨kX,2,none⟩) (Kd.bI (p:=⟨kX,1,none⟩) (Kd.bI (p:=⟨kX,0,none⟩) (Kd.dQ pI.out kM.out (by decide)) (fun _ hk=>hk.2) (.slice yc t163.length xx)) (fun _ hk=>hk.2) (.string t166)) (fun _ hk=>hk.2) (.string t167)) (fun _ hk=>hk.2) (.slice Em t168.length Ad)) (fun _ h_=>h_.1))));(case lD=>exact (Kd.fB pI.out).2.1);(case xJ=>refine (Kd.fB (e:=27) (base:=w.heap.size) (ok:=fun k_=>True) (n:=t168.length) (c:=Ad) ?_).2.2;exact (by (with_reducible repeat (first|apply Kd.aX|apply Kd.aY|apply Kd.bG));exact (Kd.dm (Kd.bI (p:=⟨kX,3,none⟩) (Kd.bI (p:=⟨kX,2,none⟩) (Kd.bI (p:=⟨kX,1,none⟩) (Kd.bI (p:=⟨kX,0,none⟩) (Kd.dQ lQ.out kM.out (by decide)) (fun _ hk=>hk.2) (.slice yc t163.length xx)) (fun _ hk=>hk.2) (.string t166)) (fun _ hk=>hk.2) (.string t167)) (fun _ hk=>hk.2) (.slice Em t168.length Ad)) (fun _ h_=>h_.1))));(case xI=>exact (Kd.fB lQ.out).2.1);(case xH=>exact Kd.gY Ai.out (by repeat (first|(with_reducible first|exact HB.out|apply au|apply af|apply aj|refine az ?_ xn.out)|exact HB.out)));rintro e w21 ⟨rfl,hb⟩;refine ⟨_,rfl,?_⟩;have dG:=ae.mk (Kd.dD (by (with_reducible repeat (first|apply Kd.aX|apply Kd.aY|apply Kd.bG));exact (Kd.dm (Kd.bI (p:=⟨kX,3,none⟩) (Kd.bI (p:=⟨kX,2,none⟩) (Kd.bI (p:=⟨kX,1,none⟩) (Kd.bI (p:=⟨kX,0,none⟩) (Kd.dQ pI.out kM.out (by decide)) (fun _ hk=>hk.2) (.slice yc t163.length xx)) (fun _ hk=>hk.2) (.string t166)) (fun _ hk=>hk.2) (.string t167)) (fun _ hk=>hk.2) (.slice Em t168.length Ad)) (fun _ h_=>h_.1))) hb);have dM:=ae.mk (Kd.dD (by (with_reducible repeat (first|apply Kd.aX|apply Kd.aY|apply Kd.bG));exact (Kd.dm (Kd.bI (p:=⟨kX,3,none⟩) (Kd.bI (p:=⟨kX,2,none⟩) (Kd.bI (p:=⟨kX,1,none⟩) (Kd.bI (p:=⟨kX,0,none⟩) (Kd.dQ lQ.out kM.out (by decide)) (fun _ hk=>hk.2) (.slice yc t163.length xx)) (fun _ hk=>hk.2) (.string t166)) (fun _ hk=>hk.2) (.string t167)) (fun _ hk=>hk.2) (.slice Em t168.length Ad)) (fun _ h_=>h_.1))) hb);have dW:=ae.mk (bH (g:=kX) (o:=.cells #[.slice yc t163.length xx,.string t166,.string t167,.slice Em t168.length Ad] 25 (0,0)) (by (with_reducible repeat (first|refine ah ?_ _|refine ak ?_|refine ai ?_ _));refine bu (cs:=#[.slice yc t163.length xx,.string t166,.string t167,.slice none 0 0]) ?_ 3 _ rfl;(with_reducible repeat (first|refine ah ?_ _|refine ak ?_|refine ai ?_ _));refine bu (cs:=#[.slice yc t163.length xx,.string t166,.string (⟨#[]⟩:ByteArray),.slice none 0 0]) ?_ 2 _ rfl;(with_reducible repeat (first|refine ah ?_ _|refine ak ?_|refine ai ?_ _));refine bu (cs:=#[.slice yc t163.length xx,.string (⟨#[]⟩:ByteArray),.string (⟨#[]⟩:ByteArray),.slice none 0 0]) ?_ 1 _ rfl;(with_reducible repeat (first|refine ah ?_ _|refine ak ?_|refine ai ?_ _));refine bu (cs:=#[.slice none 0 0,.string (⟨#[]⟩:ByteArray),.string (⟨#[]⟩:ByteArray),.slice none 0 0]) ?_ 0 _ rfl;(with_reducible repeat (first|refine ah ?_ _|refine ak ?_|refine ai ?_ _));exact kM.out) hb);have fK:=ae.mk (bf (by repeat (first|(with_reducible first|exact HB.out|apply au|apply af|apply aj|refine az ?_ xn.out)|exact HB.out)) hb);clear pI;clear lQ;clear kM;clear HB;have pI:=dG;have lQ:=dM;have kM:=dW;have HB:=fK;clear dG dM dW fK;(try clear hb);(try clear hb2);(try clear hk);(try clear hi))|((with_reducible refine bQ (f:=13) rfl ?_);refine fZ (some 22) rfl rfl Tryz.func13 (by kernel_rfl) rfl #[.string (⟨#[108,111,99,97,108,115,32,48,10]⟩:ByteArray)] rfl (by (try simp only [List.map_toArray,List.map_cons,List.map_nil]);first|done|rfl|(simp only [List.length_drop,List.length_take];rfl)) ?_;(with_reducible refine (eG.calls k (⟨#[108,111,99,97,108,115,32,48,10]⟩:ByteArray) t176 t179 t180 t181 t184 t185 _ ?gV A3.out).mono ?_);(case gV=>repeat (first|exact (Kd.gY Ai.out HB.out)|(with_reducible refine Kd.gZ ?_ _)|(with_reducible refine Kd.gX ?_ _)|(with_reducible refine Kd.jb ?_)));rintro e X7 ⟨amM,v182,rfl,ho0,ho1,hb⟩;refine ⟨_,rfl,?_⟩;have dG:=ae.mk (Kd.nR (by (with_reducible repeat (first|apply Kd.aX|apply Kd.aY|apply Kd.bG));exact pI.out) (Kd.lW ho0) hb);have dM:=ae.mk (Kd.nR (by (with_reducible repeat (first|apply Kd.aX|apply Kd.aY|apply Kd.bG));exact lQ.out) (Kd.lW ho1) hb);have dW:=ae.mk (Kd.iW (Kd.sJ ho0 (Kd.xX (by (with_reducible repeat (first|apply Kd.aX|apply Kd.aY|apply Kd.bG));exact pI.out))) (aZ (by repeat (first|(with_reducible first|exact HB.out|apply au|apply af|apply aj|refine az ?_ xn.out)|exact HB.out))));have fK:=ae.mk (Kd.iW (Kd.sJ ho1 (Kd.xX (by (with_reducible repeat (first|apply Kd.aX|apply Kd.aY|apply Kd.bG));exact lQ.out))) (aZ (by repeat (first|(with_reducible first|exact HB.out|apply au|apply af|apply aj|refine az ?_ xn.out)|exact HB.out))));have iO:=ae.mk (bH (g:=kX) (o:=.cells #[.slice yc t163.length xx,.string t166,.string t167,.slice Em t168.length Ad] 25 (0,0)) (by (with_reducible repeat (first|refine ah ?_ _|refine ak ?_|refine ai ?_ _));exact kM.out) hb);have jE:=ae.mk (bf (by repeat (first|(with_reducible first|exact HB.out|apply au|apply af|apply aj|refine az ?_ xn.out)|exact HB.out)) hb);clear pI;clear lQ;clear kM;clear HB;have pI:=dG;have lQ:=dM;have y9:=dW;have yZ:=fK;have kM:=iO;have HB:=jE;clear dG dM dW fK iO jE;(try clear hb);(try clear hb2);(try clear hk);(try clear hi);(try clear ho0);(try clear ho1))|((with_reducible refine fF (N:=7) rfl ?_);(try (refine iU (by rfl) ?_;dsimp only));refine gu ?hg (N:=7) ?hd (cs:=#[.slice none 0 0,.string (⟨#[]⟩:ByteArray),.string (⟨#[]⟩:ByteArray),.slice none 0 0]) (t:=25) ?hr ?_;(case hd=>rfl);(case hg=>rfl);(case hr=>first|(go_simp;done)|(go_simp;rfl));intro gB hg Jh hbox hb;have dG:=ae.mk (Kd.dD (by (with_reducible repeat (first|apply Kd.aX|apply Kd.aY|apply Kd.bG));exact pI.out) hb);have dM:=ae.mk (Kd.dD (by (with_reducible repeat (first|apply Kd.aX|apply Kd.aY|apply Kd.bG));exact lQ.out) hb);have dW:=ae.mk (Kd.dD (by (with_reducible repeat (first|apply Kd.aX|apply Kd.aY|apply Kd.bG));exact y9.out) hb);have fK:=ae.mk (Kd.dD (by (with_reducible repeat (first|apply Kd.aX|apply Kd.aY|apply Kd.bG));exact yZ.out) hb);have iO:=ae.mk (bH (g:=kX) (o:=.cells #[.slice yc t163.length xx,.string t166,.string t167,.slice Em t168.length Ad] 25 (0,0)) (by (with_reducible repeat (first|refine ah ?_ _|refine ak ?_|refine ai ?_ _));exact kM.out) hb);have jE:=ae.mk (bf (by repeat (first|(with_reducible first|exact HB.out|apply au|apply af|apply aj|refine az ?_ xn.out)|exact HB.out)) hb);have lg:=ae.mk (hbox);have pz:=ae.mk ((by rw [hg];exact (aZ (by repeat (first|(with_reducible first|exact HB.out|apply au|apply af|apply aj|refine az ?_ xn.out)|exact HB.out))):w.heap.size≤gB));have tN:=ae.mk ((by rw [hg];exact (aZ (by repeat (first|(with_reducible first|exact HB.out|apply au|apply af|apply aj|refine az ?_ xn.out)|exact HB.out))):w.heap.size≤gB));have rP:=ae.mk ((by rw [hg];exact Nat.ne_of_lt (gG (g:=kX) (o:=.cells #[.slice yc t163.length xx,.string t166,.string t167,.slice Em t168.length Ad] 25 (0,0)) (by (with_reducible repeat (first|refine ah ?_ _|refine ak ?_|refine ai ?_ _));exact kM.out)):kX ≠ gB));have vg:=ae.mk ((by rw [hg];exact Nat.ne_of_gt (gG (g:=kX) (o:=.cells #[.slice yc t163.length xx,.string t166,.string t167,.slice Em t168.length Ad] 25 (0,0)) (by (with_reducible repeat (first|refine ah ?_ _|refine ak ?_|refine ai ?_ _));exact kM.out)):gB ≠ kX));clear pI;clear lQ;clear y9;clear yZ;clear kM;clear HB;have pI:=dG;have lQ:=dM;have y9:=dW;have yZ:=fK;have kM:=iO;have HB:=jE;have nZ:=lg;have amo:=pz;have NP:=tN;have vU:=rP;have Pg:=vg;clear dG dM dW fK iO jE lg pz tN rP vg;clear hb hbox hg;obtain ⟨vW,vF,aab⟩:=Kd.gI y9.out;subst aab;have alC:=Pg.out;have ak9:=vU.out;have aiK:Jh.cell? ⟨gB,0,none⟩=some (.slice none 0 0):=(ax nZ.out 0).trans rfl;have aiJ:Jh.cell? ⟨gB,1,none⟩=some (.string (⟨#[]⟩:ByteArray)):=(ax nZ.out 1).trans rfl;have aiI:Jh.cell? ⟨gB,2,none⟩=some (.string (⟨#[]⟩:ByteArray)):=(ax nZ.out 2).trans rfl;have aiH:Jh.cell? ⟨gB,3,none⟩=some (.slice none 0 0):=(ax nZ.out 3).trans rfl;have agC:=ay nZ.out 0;have agB:=ay nZ.out 1;have agA:=ay nZ.out 2;have agz:=ay nZ.out 3;obtain ⟨xh,wW,Xv⟩:=Kd.gI yZ.out;subst Xv;have ML:Jh.cell? ⟨kX,0,none⟩=some (.slice yc t163.length xx):=(ax kM.out 0).trans rfl;have MK:Jh.cell? ⟨kX,1,none⟩=some (.string t166):=(ax kM.out 1).trans rfl;have MJ:Jh.cell? ⟨kX,2,none⟩=some (.string t167):=(ax kM.out 2).trans rfl;have MI:Jh.cell? ⟨kX,3,none⟩=some (.slice Em t168.length Ad):=(ax kM.out 3).trans rfl;have LU:=ay kM.out 0;have LQ:=ay kM.out 1;have LP:=ay kM.out 2;have LM:=ay kM.out 3;have Zo:0≤(1:Int):=(by omega);have Zi:1 < (t168.length:Int):=of_decide_eq_true (by first|(with_reducible assumption)|assumption);obtain ⟨xW,e187,qL,qK,qJ,qI,qH⟩:=xe (Kd.fB lQ.out).2.2 1 Zo Zi;cases e187;(try simp only [show (1:Int).toNat=1 from rfl,Nat.reduceMul,Nat.reduceEqDiff,Go.Addr.add,↓reduceIte] at qL);(try simp only [show (1:Int).toNat=1 from rfl,Nat.reduceMul,Nat.reduceEqDiff,Go.Addr.add,↓reduceIte] at qK);(try simp only [show (1:Int).toNat=1 from rfl,Nat.reduceMul,Nat.reduceEqDiff,Go.Addr.add,↓reduceIte] at qJ);(try simp only [show (1:Int).toNat=1 from rfl,Nat.reduceMul,Nat.reduceEqDiff,Go.Addr.add,↓reduceIte] at qI);(try simp only [show (1:Int).toNat=1 from rfl,Nat.reduceMul,Nat.reduceEqDiff,Go.Addr.add,↓reduceIte] at qH);have akL:(1 < t168.length)=True:=eq_true (by omega);(try rw [show ((1:Int)).toNat=1 from rfl] at qL);(try rw [show 1 * 5=5 from rfl] at qL);(try rw [show ((1:Int)).toNat=1 from rfl] at qK);(try rw [show 1 * 5=5 from rfl] at qK);(try rw [show ((1:Int)).toNat=1 from rfl] at qJ);(try rw [show 1 * 5=5 from rfl] at qJ);(try rw [show ((1:Int)).toNat=1 from rfl] at qI);(try rw [show 1 * 5=5 from rfl] at qI);(try rw [show ((1:Int)).toNat=1 from rfl] at qH);(try rw [show 1 * 5=5 from rfl] at qH);have nK:xW.block ≠ gB:=Kd.sV (Kd.Bg lQ.out nZ.out (by decide));have nJ:xW.block ≠ gB:=Kd.sV (Kd.Bg lQ.out nZ.out (by decide));have nI:xW.block ≠ gB:=Kd.sV (Kd.Bg lQ.out nZ.out (by decide));have nH:xW.block ≠ gB:=Kd.sV (Kd.Bg lQ.out nZ.out (by decide));replace qL:=(cell_far (p:=⟨gB,0,none⟩) (by first|(rw [add_block];exact nK)|(show (Addr.add _ _).block ≠ _;rw [add_block];exact nK)|exact nK) (.slice vW t176.length vF)).trans qL;replace qK:=(cell_far (p:=⟨gB,0,none⟩) (by first|(rw [add_block];exact nK)|(show (Addr.add _ _).block ≠ _;rw [add_block];exact nK)|exact nK) (.slice vW t176.length vF)).trans qK;replace qJ:=(cell_far (p:=⟨gB,0,none⟩) (by first|(rw [add_block];exact nK)|(show (Addr.add _ _).block ≠ _;rw [add_block];exact nK)|exact nK) (.slice vW t176.length vF)).trans qJ;replace qI:=(cell_far (p:=⟨gB,0,none⟩) (by first|(rw [add_block];exact nK)|(show (Addr.add _ _).block ≠ _;rw [add_block];exact nK)|exact nK) (.slice vW t176.length vF)).trans qI;replace qH:=(cell_far (p:=⟨gB,0,none⟩) (by first|(rw [add_block];exact nK)|(show (Addr.add _ _).block ≠ _;rw [add_block];exact nK)|exact nK) (.slice vW t176.length vF)).trans qH;replace qL:=(cell_far (p:=⟨gB,1,none⟩) (by first|(rw [add_block];exact nJ)|(show (Addr.add _ _).block ≠ _;rw [add_block];exact nJ)|exact nJ) (.string t179)).trans qL;replace qK:=(cell_far (p:=⟨gB,1,none⟩) (by first|(rw [add_block];exact nJ)|(show (Addr.add _ _).block ≠ _;rw [add_block];exact nJ)|exact nJ) (.string t179)).trans qK;replace qJ:=(cell_far (p:=⟨gB,1,none⟩) (by first|(rw [add_block];exact nJ)|(show (Addr.add _ _).block ≠ _;rw [add_block];exact nJ)|exact nJ) (.string t179)).trans qJ;replace qI:=(cell_far (p:=⟨gB,1,none⟩) (by first|(rw [add_block];exact nJ)|(show (Addr.add _ _).block ≠ _;rw [add_block];exact nJ)|exact nJ) (.string t179)).trans qI;replace qH:=(cell_far (p:=⟨gB,1,none⟩) (by first|(rw [add_block];exact nJ)|(show (Addr.add _ _).block ≠ _;rw [add_block];exact nJ)|exact nJ) (.string t179)).trans qH;replace qL:=(cell_far (p:=⟨gB,2,none⟩) (by first|(rw [add_block];exact nI)|(show (Addr.add _ _).block ≠ _;rw [add_block];exact nI)|exact nI) (.string t180)).trans qL;replace qK:=(cell_far (p:=⟨gB,2,none⟩) (by first|(rw [add_block];exact nI)|(show (Addr.add _ _).block ≠ _;rw [add_block];exact nI)|exact nI) (.string t180)).trans qK;replace qJ:=(cell_far (p:=⟨gB,2,none⟩) (by first|(rw [add_block];exact nI)|(show (Addr.add _ _).block ≠ _;rw [add_block];exact nI)|exact nI) (.string t180)).trans qJ;replace qI:=(cell_far (p:=⟨gB,2,none⟩) (by first|(rw [add_block];exact nI)|(show (Addr.add _ _).block ≠ _;rw [add_block];exact nI)|exact nI) (.string t180)).trans qI;replace qH:=(cell_far (p:=⟨gB,2,none⟩) (by first|(rw [add_block];exact nI)|(show (Addr.add _ _).block ≠ _;rw [add_block];exact nI)|exact nI) (.string t180)).trans qH;replace qL:=(cell_far (p:=⟨gB,3,none⟩) (by first|(rw [add_block];exact nH)|(show (Addr.add _ _).block ≠ _;rw [add_block];exact nH)|exact nH) (.slice xh t181.length wW)).trans qL;replace qK:=(cell_far (p:=⟨gB,3,none⟩) (by first|(rw [add_block];exact nH)|(show (Addr.add _ _).block ≠ _;rw [add_block];exact nH)|exact nH) (.slice xh t181.length wW)).trans qK;replace qJ:=(cell_far (p:=⟨gB,3,none⟩) (by first|(rw [add_block];exact nH)|(show (Addr.add _ _).block ≠ _;rw [add_block];exact nH)|exact nH) (.slice xh t181.length wW)).trans qJ;replace qI:=(cell_far (p:=⟨gB,3,none⟩) (by first|(rw [add_block];exact nH)|(show (Addr.add _ _).block ≠ _;rw [add_block];exact nH)|exact nH) (.slice xh t181.length wW)).trans qI;replace qH:=(cell_far (p:=⟨gB,3,none⟩) (by first|(rw [add_block];exact nH)|(show (Addr.add _ _).block ≠ _;rw [add_block];exact nH)|exact nH) (.slice xh t181.length wW)).trans qH;clear nK;clear nJ;clear nI;clear nH;replace Zo:=eq_true Zo;replace Zi:=eq_true Zi;have Zn:0≤(1:Int):=(by omega);have Zh:1 < (t168.length:Int):=of_decide_eq_true (by first|(with_reducible assumption)|assumption);obtain ⟨acz,akf,qG,qF,qE,qC,qB⟩:=xe (Kd.fB lQ.out).2.2 1 Zn Zh;obtain rfl:xW=acz:=(by injection akf);(try simp only [show (1:Int).toNat=1 from rfl,Nat.reduceMul,Nat.reduceEqDiff,Go.Addr.add,↓reduceIte] at qG);(try simp only [show (1:Int).toNat=1 from rfl,Nat.reduceMul,Nat.reduceEqDiff,Go.Addr.add,↓reduceIte] at qF);(try simp only [show (1:Int).toNat=1 from rfl,Nat.reduceMul,Nat.reduceEqDiff,Go.Addr.add,↓reduceIte] at qE);(try simp only [show (1:Int).toNat=1 from rfl,Nat.reduceMul,Nat.reduceEqDiff,Go.Addr.add,↓reduceIte] at qC);(try simp only [show (1:Int).toNat=1 from rfl,Nat.reduceMul,Nat.reduceEqDiff,Go.Addr.add,↓reduceIte] at qB);have akK:(1 < t168.length)=True:=eq_true (by omega);(try rw [show ((1:Int)).toNat=1 from rfl] at qG);(try rw [show 1 * 5=5 from rfl] at qG);(try rw [show ((1:Int)).toNat=1 from rfl] at qF);(try rw [show 1 * 5=5 from rfl] at qF);(try rw [show ((1:Int)).toNat=1 from rfl] at qE);(try rw [show 1 * 5=5 from rfl] at qE);(try rw [show ((1:Int)).toNat=1 from rfl] at qC);(try rw [show 1 * 5=5 from rfl] at qC);(try rw [show ((1:Int)).toNat=1 from rfl] at qB);(try rw [show 1 * 5=5 from rfl] at qB);have nG:xW.block ≠ gB:=Kd.sV (Kd.Bg lQ.out nZ.out (by decide));have nD:xW.block ≠ gB:=Kd.sV (Kd.Bg lQ.out nZ.out (by decide));have nC:xW.block ≠ gB:=Kd.sV (Kd.Bg lQ.out nZ.out (by decide));have nz:xW.block ≠ gB:=Kd.sV (Kd.Bg lQ.out nZ.out (by decide));replace qG:=(cell_far (p:=⟨gB,0,none⟩) (by first|(rw [add_block];exact nG)|(show (Addr.add _ _).block ≠ _;rw [add_block];exact nG)|exact nG) (.slice vW t176.length vF)).trans qG;replace qF:=(cell_far (p:=⟨gB,0,none⟩) (by first|(rw [add_block];exact nG)|(show (Addr.add _ _).block ≠ _;rw [add_block];exact nG)|exact nG) (.slice vW t176.length vF)).trans qF;replace qE:=(cell_far (p:=⟨gB,0,none⟩) (by first|(rw [add_block];exact nG)|(show (Addr.add _ _).block ≠ _;rw [add_block];exact nG)|exact nG) (.slice vW t176.length vF)).trans qE;replace qC:=(cell_far (p:=⟨gB,0,none⟩) (by first|(rw [add_block];exact nG)|(show (Addr.add _ _).block ≠ _;rw [add_block];exact nG)|exact nG) (.slice vW t176.length vF)).trans qC;replace qB:=(cell_far (p:=⟨gB,0,none⟩) (by first|(rw [add_block];exact nG)|(show (Addr.add _ _).block ≠ _;rw [add_block];exact nG)|exact nG) (.slice vW t176.length vF)).trans qB;replace qG:=(cell_far (p:=⟨gB,1,none⟩) (by first|(rw [add_block];exact nD)|(show (Addr.add _ _).block ≠ _;rw [add_block];exact nD)|exact nD) (.string t179)).trans qG;replace qF:=(cell_far (p:=⟨gB,1,none⟩) (by first|(rw [add_block];exact nD)|(show (Addr.add _ _).block ≠ _;rw [add_block];exact nD)|exact nD) (.string t179)).trans qF;replace qE:=(cell_far (p:=⟨gB,1,none⟩) (by first|(rw [add_block];exact nD)|(show (Addr.add _ _).block ≠ _;rw [add_block];exact nD)|exact nD) (.string t179)).trans qE;replace qC:=(cell_far (p:=⟨gB,1,none⟩) (by first|(rw [add_block];exact nD)|(show (Addr.add _ _).block ≠ _;rw [add_block];exact nD)|exact nD) (.string t179)).trans qC;replace qB:=(cell_far (p:=⟨gB,1,none⟩) (by first|(rw [add_block];exact nD)|(show (Addr.add _ _).block ≠ _;rw [add_block];exact nD)|exact nD) (.string t179)).trans qB;replace qG:=(cell_far (p:=⟨gB,2,none⟩) (by first|(rw [add_block];exact nC)|(show (Addr.add _ _).block ≠ _;rw [add_block];exact nC)|exact nC) (.string t180)).trans qG;replace qF:=(cell_far (p:=⟨gB,2,none⟩) (by first|(rw [add_block];exact nC)|(show (Addr.add _ _).block ≠ _;rw [add_block];exact nC)|exact nC) (.string t180)).trans qF;replace qE:=(cell_far (p:=⟨gB,2,none⟩) (by first|(rw [add_block];exact nC)|(show (Addr.add _ _).block ≠ _;rw [add_block];exact nC)|exact nC) (.string t180)).trans qE;replace qC:=(cell_far (p:=⟨gB,2,none⟩) (by first|(rw [add_block];exact nC)|(show (Addr.add _ _).block ≠ _;rw [add_block];exact nC)|exact nC) (.string t180)).trans qC;replace qB:=(cell_far (p:=⟨gB,2,none⟩) (by first|(rw [add_block];exact nC)|(show (Addr.add _ _).block ≠ _;rw [add_block];exact nC)|exact nC) (.string t180)).trans qB;replace qG:=(cell_far (p:=⟨gB,3,none⟩) (by first|(rw [add_block];exact nz)|(show (Addr.add _ _).block ≠ _;rw [add_block];exact nz)|exact nz) (.slice xh t181.length wW)).trans qG;replace qF:=(cell_far (p:=⟨gB,3,none⟩) (by first|(rw [add_block];exact nz)|(show (Addr.add _ _).block ≠ _;rw [add_block];exact nz)|exact nz) (.slice xh t181.length wW)).trans qF;replace qE:=(cell_far (p:=⟨gB,3,none⟩) (by first|(rw [add_block];exact nz)|(show (Addr.add _ _).block ≠ _;rw [add_block];exact nz)|exact nz) (.slice xh t181.length wW)).trans qE;replace qC:=(cell_far (p:=⟨gB,3,none⟩) (by first|(rw [add_block];exact nz)|(show (Addr.add _ _).block ≠ _;rw [add_block];exact nz)|exact nz) (.slice xh t181.length wW)).trans qC;replace qB:=(cell_far (p:=⟨gB,3,none⟩) (by first|(rw [add_block];exact nz)|(show (Addr.add _ _).block ≠ _;rw [add_block];exact nz)|exact nz) (.slice xh t181.length wW)).trans qB;clear nG;clear nD;clear nC;clear nz;replace Zn:=eq_true Zn;replace Zh:=eq_true Zh)|(go_at_call 11;(with_reducible refine (ig.calls ((aU t168 1).f0) ((aU t168 1).f1) ((aU t168 1).f2) ((aU t168 1).f3) ((aU t168 1).f4) true _ ?gV A13.out).mono ?_);(case gV=>exact Kd.gY Ai.out (by repeat (first|(with_reducible first|exact HB.out|apply au|apply af|apply aj|refine az ?_ xn.out|refine az ?_ NP.out)|exact HB.out)));rintro e w29 ⟨rfl,hb⟩;have dG:=ae.mk (Kd.dD (by (with_reducible repeat (first|apply Kd.aX|apply Kd.aY|apply Kd.bG));exact (Kd.dm (Kd.bI (p:=⟨gB,3,none⟩) (Kd.bI (p:=⟨gB,2,none⟩) (Kd.bI (p:=⟨gB,1,none⟩) (Kd.bI (p:=⟨gB,0,none⟩) (Kd.dQ pI.out nZ.out (by decide)) (fun _ hk=>hk.2) (.slice vW t176.length vF)) (fun _ hk=>hk.2) (.string t179)) (fun _ hk=>hk.2) (.string t180)) (fun _ hk=>hk.2) (.slice xh t181.length wW)) (fun _ h_=>h_.1))) hb);have dM:=ae.mk (Kd.dD (by (with_reducible repeat (first|apply Kd.aX|apply Kd.aY|apply Kd.bG));exact (Kd.dm (Kd.bI (p:=⟨gB,3,none⟩) (Kd.bI (p:=⟨gB,2,none⟩) (Kd.bI (p:=⟨gB,1,none⟩) (Kd.bI (p:=⟨gB,0,none⟩) (Kd.dQ lQ.out nZ.out (by decide)) (fun _ hk=>hk.2) (.slice vW t176.length vF)) (fun _ hk=>hk.2) (.string t179)) (fun _ hk=>hk.2) (.string t180)) (fun _ hk=>hk.2) (.slice xh t181.length wW)) (fun _ h_=>h_.1))) hb);have dW:=ae.mk (Kd.dD (by (with_reducible repeat (first|apply Kd.aX|apply Kd.aY|apply Kd.bG));exact (Kd.dm (Kd.bI (p:=⟨gB,3,none⟩) (Kd.bI (p:=⟨gB,2,none⟩) (Kd.bI (p:=⟨gB,1,none⟩) (Kd.bI (p:=⟨gB,0,none⟩) (Kd.dQ y9.out nZ.out (by decide)) (fun _ hk=>hk.2) (.slice vW t176.length vF)) (fun _ hk=>hk.2) (.string t179)) (fun _ hk=>hk.2) (.string t180)) (fun _ hk=>hk.2) (.slice xh t181.length wW)) (fun _ h_=>h_.1))) hb);have fK:=ae.mk (Kd.dD (by (with_reducible repeat (first|apply Kd.aX|apply Kd.aY|apply Kd.bG));exact (Kd.dm (Kd.bI (p:=⟨gB,3,none⟩) (Kd.bI (p:=⟨gB,2,none⟩) (Kd.bI (p:=⟨gB,1,none⟩) (Kd.bI (p:=⟨gB,0,none⟩) (Kd.dQ yZ.out nZ.out (by decide)) (fun _ hk=>hk.2) (.slice vW t176.length vF)) (fun _ hk=>hk.2) (.string t179)) (fun _ hk=>hk.2) (.string t180)) (fun _ hk=>hk.2) (.slice xh t181.length wW)) (fun _ h_=>h_.1))) hb);have iO:=ae.mk (bH (g:=kX) (o:=.cells #[.slice yc t163.length xx,.string t166,.string t167,.slice (some xW) t168.length Ad] 25 (0,0)) (by (with_reducible repeat (first|refine ah ?_ _|refine ak ?_|refine ai ?_ _));refine di ?_ vU.out _;(with_reducible repeat (first|refine ah ?_ _|refine ak ?_|refine ai ?_ _));refine di ?_ vU.out _;(with_reducible repeat (first|refine ah ?_ _|refine ak ?_|refine ai ?_ _));refine di ?_ vU.out _;(with_reducible repeat (first|refine ah ?_ _|refine ak ?_|refine ai ?_ _));refine di ?_ vU.out _;(with_reducible repeat (first|refine ah ?_ _|refine ak ?_|refine ai ?_ _));exact kM.out) hb);have jE:=ae.mk (bH (g:=gB) (o:=.cells #[.slice vW t176.length vF,.string t179,.string t180,.slice xh t181.length wW] 25 (0,0)) (by (with_reducible repeat (first|refine ah ?_ _|refine ak ?_|refine ai ?_ _));refine bu (cs:=#[.slice vW t176.length vF,.string t179,.string t180,.slice none 0 0]) ?_ 3 _ rfl;(with_reducible repeat (first|refine ah ?_ _|refine ak ?_|refine ai ?_ _));refine bu (cs:=#[.slice vW t176.length vF,.string t179,.string (⟨#[]⟩:ByteArray),.slice none 0 0]) ?_ 2 _ rfl;(with_reducible repeat (first|refine ah ?_ _|refine ak ?_|refine ai ?_ _));refine bu (cs:=#[.slice vW t176.length vF,.string (⟨#[]⟩:ByteArray),.string (⟨#[]⟩:ByteArray),.slice none 0 0]) ?_ 1 _ rfl;(with_reducible repeat (first|refine ah ?_ _|refine ak ?_|refine ai ?_ _));refine bu (cs:=#[.slice none 0 0,.string (⟨#[]⟩:ByteArray),.string (⟨#[]⟩:ByteArray),.slice none 0 0]) ?_ 0 _ rfl;(with_reducible repeat (first|refine ah ?_ _|refine ak ?_|refine ai ?_ _));exact nZ.out) hb);have lg:=ae.mk (bf (by repeat (first|(with_reducible first|exact HB.out|apply au|apply af|apply aj|refine az ?_ xn.out|refine az ?_ NP.out)|exact HB.out)) hb);clear pI;clear lQ;clear y9;clear yZ;clear kM;clear nZ;clear HB;have pI:=dG;have lQ:=dM;have y9:=dW;have yZ:=fK;have kM:=iO;have nZ:=jE;have HB:=lg;clear dG dM dW fK iO jE lg;(try clear hb);(try clear hb2);(try clear hk);(try clear hi))|(go_at_call 11;(with_reducible refine (ig.calls 0 0 0 0 0 t190 _ ?gV A15.out).mono ?_);(case gV=>repeat (first|exact (Kd.gY Ai.out HB.out)|(with_reducible refine Kd.gZ ?_ _)|(with_reducible refine Kd.gX ?_ _)|(with_reducible refine Kd.jb ?_)));rintro e w30 ⟨rfl,hb⟩;have dG:=ae.mk (Kd.dD (by (with_reducible repeat (first|apply Kd.aX|apply Kd.aY|apply Kd.bG));exact pI.out) hb);have dM:=ae.mk (Kd.dD (by (with_reducible repeat (first|apply Kd.aX|apply Kd.aY|apply Kd.bG));exact lQ.out) hb);have dW:=ae.mk (Kd.dD (by (with_reducible repeat (first|apply Kd.aX|apply Kd.aY|apply Kd.bG));exact y9.out) hb);have fK:=ae.mk (Kd.dD (by (with_reducible repeat (first|apply Kd.aX|apply Kd.aY|apply Kd.bG));exact yZ.out) hb);have iO:=ae.mk (bH (g:=kX) (o:=.cells #[.slice yc t163.length xx,.string t166,.string t167,.slice (some xW) t168.length Ad] 25 (0,0)) (by (with_reducible repeat (first|refine ah ?_ _|refine ak ?_|refine ai ?_ _));exact kM.out) hb);have jE:=ae.mk (bH (g:=gB) (o:=.cells #[.slice vW t176.length vF,.string t179,.string t180,.slice xh t181.length wW] 25 (0,0)) (by (with_reducible repeat (first|refine ah ?_ _|refine ak ?_|refine ai ?_ _));exact nZ.out) hb);have lg:=ae.mk (bf (by repeat (first|(with_reducible first|exact HB.out|apply au|apply af|apply aj|refine az ?_ xn.out|refine az ?_ NP.out)|exact HB.out)) hb);clear pI;clear lQ;clear y9;clear yZ;clear kM;clear nZ;clear HB;have pI:=dG;have lQ:=dM;have y9:=dW;have yZ:=fK;have kM:=iO;have nZ:=jE;have HB:=lg;clear dG dM dW fK iO jE lg;(try clear hb);(try clear hb2);(try clear hk);(try clear hi)))
                      go_ret
                      exact ⟨by first|rfl|(simp [bF,bD] <;> rfl)|(simp [*,bF,bD] <;> rfl),by repeat (first|(with_reducible first|exact HB.out|apply au|apply af|apply aj|refine az ?_ xn.out|refine az ?_ NP.out)|exact HB.out)⟩
                    · have q1:=xU A1.out;simp only [Prod.mk.injEq] at q1;obtain ⟨e1,e2,e3,e4,e5,e6⟩:=q1;exact absurd (XK (by have q5:=A13.out;rw [e4] at q5;exact q5)) c14
                  · have q4:=I4 A3.out;simp only [Prod.mk.injEq] at q4;exact absurd q4.2 c12
                · have q4:=I4 A3.out;simp only [Prod.mk.injEq] at q4;exact absurd q4.1 c11
              · have q1:=xU A1.out;simp only [Prod.mk.injEq] at q1;obtain ⟨e1,e2,e3,e4,e5,e6⟩:=q1;have q2:=A2.out;rw [e1,e2,e3,e4] at q2;have q3:=Su q2;simp only [Prod.mk.injEq] at q3;exact absurd (by rw [q3.1];decide +kernel) c10
            · have q1:=xU A1.out;simp only [Prod.mk.injEq] at q1;obtain ⟨e1,e2,e3,e4,e5,e6⟩:=q1;have q2:=A2.out;rw [e1,e2,e3,e4] at q2;have q3:=Su q2;simp only [Prod.mk.injEq] at q3;exact absurd q3.2 c9
          · have q1:=xU A1.out;simp only [Prod.mk.injEq] at q1;obtain ⟨e1,e2,e3,e4,e5,e6⟩:=q1;exact absurd (by rw [e4];decide +kernel) c8
        · have q1:=xU A1.out;simp only [Prod.mk.injEq] at q1;obtain ⟨e1,e2,e3,e4,e5,e6⟩:=q1;exact absurd (by rw [e4];decide) c7
      · have q1:=xU A1.out;simp only [Prod.mk.injEq] at q1;obtain ⟨e1,e2,e3,e4,e5,e6⟩:=q1;exact absurd (by rw [e4];rfl) c6
    · have q1:=xU A1.out;simp only [Prod.mk.injEq] at q1;obtain ⟨e1,e2,e3,e4,e5,e6⟩:=q1;exact absurd e5 c5
  · have q1:=xU A1.out;simp only [Prod.mk.injEq] at q1;obtain ⟨e1,e2,e3,e4,e5,e6⟩:=q1;exact absurd e6 c4
def fH.l0:Nat→Int→List ByteArray→Int→Int→List ByteArray→ByteArray→ByteArray→List (jR)→Option (Bool)
  | 0,_,_,_,_,_,_,_,_=>none
  | k+1,x3,x14,x15,x16,Tn,Tm,Tj,KG=>if x16 < x15 then (if 0≤x16 then (if x16 < (x14.length:Int) then (fH.l0 k (wrap64 (x3+(wrap64 (((eF ByteArray.empty x14 x16).size:Int)+1)))) x14 x15 (wrap64 (x16+1)) Tn Tm Tj KG) else (none)) else (none)) else (if x3≤500 then (some (decide ((KG.length:Int)≤210))) else (some false))
def fH.f (k:Nat) (dn:List ByteArray) (bU:ByteArray) (bV:ByteArray) (bM:List (jR)):Option (Bool):=fH.l0 k (wrap64 ((bU.size:Int)+(bV.size:Int))) dn (dn.length:Int) 0 dn bU bV bM
theorem fH.iq:∀ k,(∀ y0 y1 y2 y3 y4 y5 y6 y7,dC (fH.l0 k y0 y1 y2 y3 y4 y5 y6 y7) (fH.l0 (k+1) y0 y1 y2 y3 y4 y5 y6 y7))
  | 0=>fun _ _ _ _ _ _ _ _ r h=>by simp [fH.l0] at h
  | k+1=>by
    have jY:=fH.iq k
    · intro y0 y1 y2 y3 y4 y5 y6 y7
      unfold fH.l0
      repeat' first
      | (with_reducible exact jY _ _ _ _ _ _ _ _)
      | (with_reducible exact dC.refl _)
      | (with_reducible exact dC.none _)
      | (with_reducible refine dC.ite ?_ ?_)
      | (with_reducible refine dC.bind ?_ (fun _=>?_))
      | exact jY _ _ _ _ _ _ _ _
      | exact dC.none _
      | refine dC.ite ?_ ?_
      | refine dC.bind ?_ (fun _=>?_)
theorem fH.mono:∀ a0 a1 a2 a3 k,dC (fH.f k a0 a1 a2 a3) (fH.f (k+1) a0 a1 a2 a3):=by
  intro a0 a1 a2 a3 k
  have jY:=fH.iq k
  unfold fH.f
  repeat' first
      | (with_reducible exact jY _ _ _ _ _ _ _ _)
      | (with_reducible exact dC.refl _)
      | (with_reducible exact dC.none _)
      | (with_reducible refine dC.ite ?_ ?_)
      | (with_reducible refine dC.bind ?_ (fun _=>?_))
      | exact jY _ _ _ _ _ _ _ _
      | exact dC.none _
      | refine dC.ite ?_ ?_
      | refine dC.bind ?_ (fun _=>?_)
end Go.Proofs.YtkclndkbccbhaaaGreatDoor.P
end
