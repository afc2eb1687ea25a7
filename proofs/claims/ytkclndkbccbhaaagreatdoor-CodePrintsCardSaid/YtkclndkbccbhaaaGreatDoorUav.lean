/- Parts of the proof of CodePrints: what the functions that it reaches compute, and plain facts about that. -/
import Derived.Test.YtkclndkbccbhaaaGreatDoorUat
import Derived.Test.YtkclndkbccbhaaaGreatDoorUau
set_option linter.unusedVariables false
set_option linter.unusedSimpArgs false
section
namespace Go.Proofs.YtkclndkbccbhaaaGreatDoor.P
open Go Go.RowKit Go.Proofs.ag.bJ Go.Proofs.ag.eX Go.Proofs.ag.gp
theorem Io (ts:List ByteArray) (lo gl:ByteArray) (cs:List jZ) (x:jZ) (ht:ts.length≤140737488355328) (hts:∀ s ∈ ts,s.size≤140737488355328) (hc:cs.length≤140737488355328) (hw:Wf cs) (hlo:lo.size≤140737488355328) (hgl:gl.size≤140737488355328) (hx:I7 x):Ev (fun k=>bT.f k ts lo gl cs x.f0 x.f1 x.f2 x.f3 x.f4) true:=by
  unfold bT.f
  refine Ev.bind QH (Ev.congr (fun k=>if_pos rfl) ?_)
  refine Ev.bind (XO ts lo gl cs ht) ?_
  cases hf:Ve ts lo gl cs with
  | false=>exact Ev.now _
  | true =>
    refine Ev.congr (fun k=>if_pos rfl) ?_
    have hs:vP ts lo gl cs=true→sizes ts≤500:=fun h=>NT ht (Az.1 h) hf
    refine Ev.bind (printed ht hc hw hs) (Ev.bind (Ou ht hts hc hw hlo hgl hs) ?_)
    refine Ev.congr (fun k=>by rw [JE,Option.bind_some]) ?_
    refine Ev.bind (CG x hx) ?_
    refine Ev.congr (f:=fun _=>some true) (fun k=>?_) (Ev.now _)
    rw [if_pos (beq_self_eq_true _),if_pos rfl,beq_self_eq_true]
end Go.Proofs.YtkclndkbccbhaaaGreatDoor.P
end
