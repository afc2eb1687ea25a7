/-
  PLAIN LEAN: the law CheckNames.
-/
import Derived.Test.YtdkachialdabaaaDoorPlainC
import Derived.Test.YtdkachialdabaaaDoorPx7
namespace Go.Proofs.YtdkachialdabaaaDoor.P
open Go.RowKit Go.Proofs.YtdkachialdabaaaDoorW.PrintWords Go.Proofs.YtdkachialdabaaaDoorW.PrintLast Go.Proofs.YtdkachialdabaaaDoorW.PrintMore
theorem names_law (t : List ByteArray) (lo gl : ByteArray) (code : List S32) (a : Int) (ht : t.length ≤ 9223372036854775807) (hs : lo.size + gl.size ≤ 9223372036854775807) (hn : code.length ≤ 9223372036854775807) (hw : Wf code) (h0 : 0 ≤ a) (h1 : a ≤ 255) :
    Ev (fun k => lockstitchlaw05_CheckNames.f k t lo gl code a) true := by
  have wa : wrap64 a = a := by unfold wrap64; omega
  refine Ev.bind alive_f (Ev.congr (fun k => if_pos rfl) ?_)
  obtain ⟨b, hb⟩ := few_f t lo gl code ht
  refine Ev.bind hb ?_
  refine Ev.out (Ev.ite (b := true) (a := true) (fun _ => ?_) fun _ => Ev.now _) (by split <;> rfl)
  refine Ev.bind (check_f t lo gl code ht hs hn hw) ?_
  refine Ev.out (Ev.ite (b := true) (a := true) (fun hok => ?_) fun _ => Ev.now _) (by split <;> rfl)
  obtain ⟨hh, _, _⟩ := (checkF_ok t lo gl code).1 hok
  obtain ⟨hr, hlo, hgl, _, _⟩ := headB_parts hh
  obtain ⟨l1, l2⟩ := namedF_ok hr hlo h0
  obtain ⟨g1, g2⟩ := namedF_ok hr hgl h0
  refine Ev.bind (local_f t lo gl code a ht h0 h1) (Ev.bind (glob_f t lo gl code a ht h0 h1) ?_)
  refine Ev.congr (fun k => if_neg ?_) (Ev.congr (fun k => if_neg ?_) (Ev.congr (fun k => if_neg ?_) ?_))
  · rw [wa, bne_iff_ne, ne_eq, Classical.not_not]
    exact decide_eq_decide.2 l1
  · rw [wa, bne_iff_ne, ne_eq, Classical.not_not]
    exact decide_eq_decide.2 g1
  · omega
  · rw [decide_eq_false (by omega)]
    have nd := needF_right hr
    refine Ev.step (fun k => by simp only [lockstitchlaw05_CheckNames.j0]; rfl) (Ev.congr (fun k => if_neg (by decide)) ?_)
    refine Ev.bind (need_f t lo gl code ht) (Ev.congr (fun k => if_pos nd.1) ?_)
    refine Ev.bind (need_f t lo gl code ht) ?_
    rw [decide_eq_true nd.2]
    exact Ev.now _
end Go.Proofs.YtdkachialdabaaaDoor.P
