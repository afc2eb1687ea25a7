/- THE ROW OF LeakTrue: the law returns true for every input and leaves its arguments as they were; its card. The texts ahead of this one hold its parts. -/
import Derived.Test.YtgfnpdfhdgenbaaDoorCards
import Derived.LaidMore
import Derived.Test.YtgfnpdfhdgenbaaDoorTab
import Derived.Test.YtgfnpdfhdgenbaaDoorTas
import Derived.Test.YtgfnpdfhdgenbaaDoorTat
set_option linter.unusedVariables false
set_option linter.unusedSimpArgs false
section
namespace Go.Proofs.YtgfnpdfhdgenbaaDoor.leakTrue
open Go.ChangeShapes Go.WideShapes Go.ChangeAt Go.RowKit Go.Proofs.YtgfnpdfhdgenbaaDoor.P
theorem laidOut:laidOutB Tryd.prog=true:=by kernel_rfl
set_option maxRecDepth 100000 in
theorem contract (H:Type) (enc:TypeId × Value→H) (W:World) (base:Nat) (args:Array Value) (ds gs:List (DataW H)) (before:List MemPlace)
    (hval:∀ (j:Nat) t v,Tryd.f3.params[j]? = some t→args[j]? = some v→Value.okWide Tryd.prog W .any base t v)
    (hW:DataW.Whole enc Tryd.prog Tryd.f3.params.toList Rows.leakTrueSpec.vars false W args.toList ds gs before)
    (hz:(DataW.weightsEach Tryd.prog (Tryd.f3.params.toList++[]) (ds++gs)).all (·≤reachBytes)=true)
    (hL:laidMetH Tryd.prog Rows.leakTrueRow.laid W) :
    Calls Tryd.prog 3 args W fun e W'=>∃ v,e=.returned v∧Rows.leakTrueSpec.post enc Tryd.prog Tryd.f3 false true false false W args v W':=by
  have hW':=hW
  obtain ⟨p,q,hA0,hV,rfl,hfz,hnd⟩:=hW
  have hA:DataW.TrodAll enc Tryd.prog W 0 (fun _=>true) true Tryd.f3.params.toList args.toList ds p:=hA0
  rw [Tryd.params3] at hA hval hz
  obtain ⟨v0,vs0,d0,ds0,p0,q0,hargs,rfl,rfl,h0,r0⟩:=trodAll_cons hA
  obtain ⟨v1,vs1,d1,ds1,p1,q1,rfl,rfl,rfl,h1,r1⟩:=trodAll_cons r0
  obtain ⟨rfl,rfl,rfl⟩:=trodAll_nil r1
  obtain rfl:args=#[v0,v1]:=by cases args;simp_all
  obtain ⟨rfl,rfl⟩:=trodVars_none hV
  have k0:=h0
  have lt0:∀ x ∈ p0,x.block < W.heap.size:=by obtain ⟨m,hm⟩:=k0;exact DataW.trod_lt m _ _ _ hm
  obtain ⟨A0,c0,t,lo,gl,A3,c3,code,e0,e3,rfl,rfl,hT,hTc,hC,hCc,hw,hts⟩:=Lm (hval 0 25 v0 rfl rfl) h0
  obtain ⟨a1,rfl,rfl,rfl,w1⟩:=open_int Tryd.underlying5 (hval 1 5 v1 rfl rfl) h1
  have b1:=Ef w1
  have sz:=Lh hz
  have rb:reachBytes=140737488351232:=by decide
  clear hA0
  obtain ⟨f,rfl⟩:=Int.eq_ofNat_of_zero_le (show 0≤a1 from b1.1)
  have b1u:(f:Int)≤255:=b1.2
  obtain ⟨k,hk⟩:=Ac t lo gl code f hT.2.1 hts (by omega) hC.2.1 hw (by omega)
  refine (leakTrue.calls k A0 c0 t lo gl A3 c3 code f W hT hTc hC hCc (table hL) (by omega) hk).mono fun e W' ⟨he,bel⟩=>?_
  subst he
  exact ⟨_,rfl,_,_,_,[],_,[],hW',trodAll_mk1 (shut_bool Tryd.underlying4 _),(trodAll_cons_mk (Below.trod laidOut (by kernel_rfl) (of_decide_eq_true (by kernel_rfl)) k0 bel lt0) (trodAll_cons_mk (shut_int Tryd.underlying5 w1) trodAll_mk0)),rfl,bel.frame _,fun h=>by cases h⟩
noncomputable def laidWorld (os:Os):World :=
  World.doorLaid Tryd.prog 24 os
theorem laid_met (os:Os):laidMet Tryd.prog Rows.leakTrueRow.laid ((laidWorld os).forCall (fun _ _=>0) ⟨#[],#[.agg #[.slice none 0 0,.string ⟨#[]⟩,.string ⟨#[]⟩,.slice none 0 0],.int .u8 0],[]⟩).memory :=
  laidMet_of_run' 8 (by kernel_rfl) (by kernel_rfl)
theorem reads (os:Os) {H:Type} (enc:TypeId × Value→H):∃ ds places,DataW.whole enc Tryd.prog ((laidWorld os).forCall (fun _ _=>0) ⟨#[],#[.agg #[.slice none 0 0,.string ⟨#[]⟩,.string ⟨#[]⟩,.slice none 0 0],.int .u8 0],[]⟩).memory Tryd.f3.params.toList Rows.leakTrueSpec.vars false (#[.agg #[.slice none 0 0,.string ⟨#[]⟩,.string ⟨#[]⟩,.slice none 0 0],.int .u8 0]:Array Value).toList 8=some (ds,[],places) :=
  ⟨[.agg [.nil,.lit (.string []),.lit (.string []),.nil],.lit (.int .u8 0)],[],by kernel_rfl⟩
set_option maxRecDepth 100000 in
theorem lifted (os:Os) (started:os.Started) (H:Type) (enc:TypeId × Value→H) (F:Stop.Interp) :
    ReturnsInHanded {} Tryd.checked os 3 .any ((OpenSpec.ofChange Rows.leakTrueSpec).preRow enc Tryd.prog Tryd.f3 Rows.leakTrueRow.domain false Rows.leakTrueRow.laid) (((OpenSpec.ofChange Rows.leakTrueSpec).at F).post enc Tryd.prog Tryd.f3 false true false false):=by
  have hx:DataW.whole enc Tryd.prog ((laidWorld os).forCall (fun _ _=>0) ⟨#[],#[.agg #[.slice none 0 0,.string ⟨#[]⟩,.string ⟨#[]⟩,.slice none 0 0],.int .u8 0],[]⟩).memory Tryd.f3.params.toList Rows.leakTrueSpec.vars false (#[.agg #[.slice none 0 0,.string ⟨#[]⟩,.string ⟨#[]⟩,.slice none 0 0],.int .u8 0]:Array Value).toList 8=some ([.agg [.nil,.lit (.string []),.lit (.string []),.nil],.lit (.int .u8 0)],[],[]):=by kernel_rfl
  refine returnsInHanded_of_row (C:=Tryd.checked) (s:=OpenSpec.ofChange Rows.leakTrueSpec) own started (by kernel_rfl) Tryd.func3
    (witness_row_at (enc:=enc) (C:=Tryd.checked) false (laidWorld os) #[.agg #[.slice none 0 0,.string ⟨#[]⟩,.string ⟨#[]⟩,.slice none 0 0],.int .u8 0] rfl (by kernel_rfl) (by kernel_rfl) (by kernel_rfl)
      (OpenSpec.preRow_of_cond 8 hx (by kernel_rfl) (fun k hk=>by cases hk) (by kernel_rfl) (laid_met os))) ?_
  intro W base args ds gs before hval hW _ _ hz hL _ _
  exact contract H enc W base args ds gs before hval hW hz hL
theorem said:Rows.LeakTrueSaid :=
  OpenClaim.holds_of_cond 3 Tryd.f3 rfl rfl rfl rfl rfl rfl rfl ⟨rfl,rfl,rfl,rfl,rfl⟩ rfl rfl rfl rfl rfl (by kernel_rfl) Tryd.func3 (by kernel_rfl)
    (of_decide_eq_true (by kernel_rfl)) (by unfold Func.isWrapper;first|(rw [if_pos (by decide +kernel)];kernel_rfl)|(rw [if_neg (by decide +kernel)];exact ⟨rfl,rfl⟩))
    (fun os started H enc _ F=>by rw [OpenClaim.pre_eq_preRow];exact lifted os started H enc F)
theorem plain (f:FuncId) (fn:Func) (hf:Tryd.pinned.checked.prog.funcNamed "lockstitch/lockstitchlaw11.LeakTrue"=some f) (hfn:Tryd.pinned.checked.prog.funcs[f]? = some fn) :
    false=Tryd.pinned.checked.prog.looks []∧∀ (j:Nat) t,fn.params[j]? = some t→Tryd.pinned.checked.prog.wantsStandIn t=false:=by
  obtain rfl:f=3:=Option.some.inj ((show Tryd.prog.funcNamed "lockstitch/lockstitchlaw11.LeakTrue"=some 3 by kernel_rfl).symm.trans hf) |>.symm
  obtain rfl:fn=Tryd.f3:=(Option.some.inj (Tryd.func3.symm.trans hfn)).symm
  refine ⟨by kernel_rfl,fun j t ht=>?_⟩
  rw [Tryd.params3] at ht
  have:t=25 ∨ t=5:=by simpa using Array.mem_of_getElem? ht
  rcases this with rfl|rfl
  · exact (show Tryd.prog.wantsStandIn 25=false by kernel_rfl)
  · exact (show Tryd.prog.wantsStandIn 5=false by kernel_rfl)
theorem card:Rows.LeakTrueCardSaid :=
  Claim7.holds_tied_plain_at .later [] _ _ _ _ said (fun _ h=>by cases h) (by kernel_rfl) (fun _ h=>by cases h) leakTrue_row_tie rfl ⟨rfl,rfl⟩ (by kernel_rfl) rfl plain (by kernel_rfl)
end Go.Proofs.YtgfnpdfhdgenbaaDoor.leakTrue
namespace Go.Proofs.YtgfnpdfhdgenbaaDoor
theorem leakTrue_holds:Rows.LeakTrueCardSaid:=leakTrue.card
#print axioms leakTrue_holds
end Go.Proofs.YtgfnpdfhdgenbaaDoor
end
