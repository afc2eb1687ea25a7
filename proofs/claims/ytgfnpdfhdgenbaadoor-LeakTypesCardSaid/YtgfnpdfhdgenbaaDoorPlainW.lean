/-
  PLAIN LEAN: the law LeakTypes.
-/
import Derived.Test.YtgfnpdfhdgenbaaDoorPlainV
import Derived.Test.YtgfnpdfhdgenbaaDoorPx13
import Derived.Test.YtgfnpdfhdgenbaaDoorPx11
namespace Go.Proofs.YtgfnpdfhdgenbaaDoor.P
open Go.RowKit Go.Proofs.YtgfnpdfhdgenbaaDoorW.PrintWords Go.Proofs.YtgfnpdfhdgenbaaDoorW.PrintLast Go.Proofs.YtgfnpdfhdgenbaaDoorW.PrintMore
set_option linter.unusedVariables false
set_option linter.unusedSimpArgs false

theorem alive_f : Ev (fun k => lockstitchlaw11_alive.f k) true := Ev.of (k := 40) lockstitchlaw11_alive.mono (by kernel_rfl)
theorem types_law (t : List ByteArray) (lo gl : ByteArray) (code : List S45) (ht : t.length ≤ Mx) (hs : ∀ i : Int, (rdOf ByteArray.empty t i).size ≤ Mx) (hlo : lo.size ≤ Mx) (hgl : gl.size ≤ Mx) (hn : code.length ≤ Mx) (hw : Wf code) :
    Ev (fun k => lockstitchlaw11_LeakTypes.f k t lo gl code) true := by
  refine Ev.bind alive_f (Ev.congr (fun k => if_pos rfl) ?_)
  obtain ⟨b, hb, hp⟩ := sound_more t lo gl code ht hs hn hw hlo hgl
  refine Ev.bind hb ?_
  refine Ev.out (Ev.ite (b := true) (a := true) (fun hb1 => ?_) fun _ => Ev.now _) (by split <;> rfl)
  obtain ⟨h8, ⟨h1, h60⟩, hg⟩ := hp hb1
  obtain ⟨Y, hY, hk⟩ := may_any t lo gl code h8 h60 hw
  have hN := news_of lo code Y hk
  have hO := only_of t lo code hw hg Y hk
  refine Ev.bind hY (Ev.congr (fun k => if_pos (by rw [tabM_len])) ?_)
  have hTl : ((tabM lo.size (code.length + 1) Y).length : Int) = (lo.size : Int) := by rw [tabM_len]
  have hrow : ∀ a : Nat, a < lo.size → rd_L8 (tabM lo.size (code.length + 1) Y) (a : Nat) = rowM (code.length + 1) (Y a) := fun a ha => tabM_row Y ha
  generalize tabM lo.size (code.length + 1) Y = T at hTl hrow ⊢
  clear hY hk hb hp hb1
  have l2 : ∀ d i, i + d = code.length → Ev (fun k => lockstitchlaw11_LeakTypes.l2 k T code (code.length : Int) (i : Nat)) true := by
    intro d
    induction d with
    | zero =>
      intro i hi
      refine Ev.step (f := fun _ => some true) (fun k => ?_) (Ev.now _)
      simp only [lockstitchlaw11_LeakTypes.l2]
      rw [if_neg (by omega)]
    | succ d ih =>
      intro i hi
      have nx : Ev (fun k => lockstitchlaw11_LeakTypes.l2 k T code (code.length : Int) (wrap64 ((i : Int) + 1))) true := by
        rw [wrapN (i := i) (n := code.length) (by omega) hn]
        exact ih (i + 1) (by omega)
      refine Ev.step (fun k => by simp only [lockstitchlaw11_LeakTypes.l2]; rfl) ?_
      refine Ev.congr (fun k => (if_pos (by omega)).trans ((if_pos (by omega)).trans (if_pos (by omega)))) ?_
      rw [rd_at]
      have hx := hw i
      have gi := hg i (by omega)
      have ni := hN i (by omega)
      generalize code.getD i z45 = x at hx gi ni ⊢
      by_cases h5 : x.f0 = 5
      · have hf := (namedF_nonneg (gi.1 h5)).1
        obtain ⟨c, hc⟩ := Int.eq_ofNat_of_zero_le hx.2.1.1
        have hcl : c < lo.size := by rw [hc] at hf; exact Int.ofNat_lt.1 hf
        have n2 := ni h5 hf
        rw [hc] at n2 ⊢
        rw [Int.toNat_natCast] at n2
        rw [hrow c hcl]
        refine Ev.congr (fun k => (if_pos h5).trans ((if_pos (Int.natCast_nonneg c)).trans ((if_pos (by rw [hTl]; exact Int.ofNat_lt.2 hcl)).trans ((if_pos (by rw [rowM_len]; omega)).trans (if_pos ?_))))) nx
        rw [rowM_at _ (by omega)]
        exact n2
      · exact Ev.congr (fun k => if_neg h5) nx
  have l0 : ∀ d a, a + d = lo.size → Ev (fun k => lockstitchlaw11_LeakTypes.l0 k T (lo.size : Int) (a : Nat) t lo gl code) true := by
    intro d
    induction d with
    | zero =>
      intro a ha
      refine Ev.step (f := fun k => lockstitchlaw11_LeakTypes.l2 k T code (code.length : Int) 0) (fun k => ?_) (l2 code.length 0 (Nat.zero_add _))
      simp only [lockstitchlaw11_LeakTypes.l0]
      rw [if_neg (by omega)]
    | succ d ih =>
      intro a ha
      have nx : Ev (fun k => lockstitchlaw11_LeakTypes.l0 k T (lo.size : Int) (wrap64 ((a : Int) + 1)) t lo gl code) true := by
        rw [wrapN (i := a) (n := lo.size) (by omega) hlo]
        exact ih (a + 1) (by omega)
      have hal : a < lo.size := by omega
      have hr := hrow a hal
      have hrl : ((rd_L8 T (a : Nat)).length : Int) = ((code.length + 1 : Nat) : Int) := by rw [hr, rowM_len]
      have hat : ∀ j, j < code.length + 1 → rdOf false (rd_L8 T (a : Nat)) (j : Nat) = Y a j := fun j hj => by rw [hr, rowM_at _ hj]
      refine Ev.step (fun k => by simp only [lockstitchlaw11_LeakTypes.l0]; rfl) ?_
      refine Ev.congr (fun k => (if_pos (by omega)).trans ((if_pos (by omega)).trans ((if_pos (by omega)).trans (if_pos (by rw [hrl, wrapN (i := code.length) (n := code.length + 1) (by omega) (by omega)]))))) ?_
      rw [hrl]
      have l1 : ∀ d j, j + d = code.length + 1 → Ev (fun k => lockstitchlaw11_LeakTypes.l1 k T (a : Nat) (lo.size : Int) (a : Nat) (rd_L8 T (a : Nat)) ((code.length + 1 : Nat) : Int) (j : Nat) t lo gl code) true := by
        intro d
        induction d with
        | zero =>
          intro j hj
          refine Ev.step (f := fun k => lockstitchlaw11_LeakTypes.l0 k T (lo.size : Int) (wrap64 ((a : Int) + 1)) t lo gl code) (fun k => ?_) nx
          simp only [lockstitchlaw11_LeakTypes.l1]
          rw [if_neg (by omega)]
        | succ d ih =>
          intro j hj
          have nx1 : Ev (fun k => lockstitchlaw11_LeakTypes.l1 k T (a : Nat) (lo.size : Int) (a : Nat) (rd_L8 T (a : Nat)) ((code.length + 1 : Nat) : Int) (wrap64 ((j : Int) + 1)) t lo gl code) true := by
            rw [wrapN (i := j) (n := code.length + 1) (by omega) (by omega)]
            exact ih (j + 1) (by omega)
          refine Ev.step (fun k => by simp only [lockstitchlaw11_LeakTypes.l1]; rfl) ?_
          refine Ev.congr (fun k => (if_pos (by omega)).trans ((if_pos (by omega)).trans (if_pos (by rw [hrl]; omega)))) ?_
          rw [hat j (by omega), rd_at]
          by_cases hy : Y a j = true
          · refine Ev.congr (fun k => if_pos hy) ?_
            obtain ⟨o1, o2, o3, o4, o5⟩ := hO a j hal hy
            refine Ev.congr (fun k => (if_neg (by omega)).trans ((if_pos (by omega)).trans ((if_pos o2).trans ((if_pos o3).trans ((if_pos o4).trans ((if_pos (by omega)).trans ((if_pos (by omega)).trans (if_pos o5)))))))) nx1
          · exact Ev.congr (fun k => if_neg hy) nx1
      exact l1 (code.length + 1) 0 (Nat.zero_add _)
  rw [hTl]
  exact l0 lo.size 0 (Nat.zero_add _)
end Go.Proofs.YtgfnpdfhdgenbaaDoor.P
