/-
  THE ROW OF WordJoins, SECOND FORM: the law returns true for every input of bulk at most 1048576 and leaves its argument as it was; its card.
-/
import Derived.Test.YtkhdcihjlobhfaaDoorCards
import Derived.Test.YtkhdcihjlobhfaaDoorOpen
import Derived.Test.YtkhdcihjlobhfaaDoorPx6
import Derived.Test.YtkhdcihjlobhfaaDoorPlainJ
namespace Go.Proofs.YtkhdcihjlobhfaaDoor.wordJoins
open Go.ChangeShapes Go.WideShapes Go.ChangeAt Go.RowKit Go.Joins Go.Proofs.YtkhdcihjlobhfaaDoor.P Go.Proofs.YtkhdcihjlobhfaaDoorW.PrintWords Go.Proofs.YtkhdcihjlobhfaaDoorW.PrintLast Go.Proofs.YtkhdcihjlobhfaaDoorW.PrintMore
set_option linter.unusedVariables false
theorem laidOut : laidOutB Tryd.prog = true := by kernel_rfl
theorem cells9 : Tryd.prog.cellsOf 9 = 1 := by kernel_rfl
theorem cells33 : Tryd.prog.cellsOf 33 = 1 := by kernel_rfl

/-! ### Lines, opened -/
theorem bulk_strs {H : Type} (ss : List ByteArray) : Rows.uptoBulkAll (strs ss : List (DataW H)) = totW (ss.map (·.data.toList)) := by
  induction ss with
  | nil => rfl
  | cons s r ih =>
    have e : (strs (s :: r) : List (DataW H)) = .lit (.string s.data.toList) :: strs r := rfl
    rw [e]
    simp only [Rows.uptoBulkAll, Rows.uptoBulk, List.map_cons, totW_cons, ih]
theorem cells_get {w : World} {base : Nat} {a : Addr} {n : Nat} {cs : List Value} (h : w.cells? base a n = some cs) : cs.length = n ∧ ∀ q, q < n → w.cell? (a.add q) = cs[q]? := by
  unfold World.cells? at h
  split at h
  · exact ⟨by simpa using mapM_some_length h, fun q hq => mapM_some_get h q q (by simp [hq])⟩
  · cases h
section
variable {H : Type} {enc : TypeId × Value → H} {w : World} {base : Nat} {sp : Nat → Bool} {held : Bool}
theorem open_line {fuel : Nat} {v : Value} {x : DataW H × List MemPlace} (h : DataW.trod enc Tryd.prog w base sp held fuel 33 [v] = some x) :
    ∃ (A : Option Addr) (c : Nat) (t : List (List UInt8)), v = .slice A t.length c ∧ t.length ≤ c ∧ Kd.C Kd.string w A t.length (t.map Bs) ∧ totW t + 1 ≤ Rows.uptoBulk x.1 := by
  rcases open_strings Tryd.underlying33 Tryd.underlying9 cells9 h with ⟨hcs, rfl⟩ | ⟨a, len, cap, ss, hcs, _, hl, hm, hss, rfl, hcell, _⟩
  · injection hcs with hcs
    subst hcs
    exact ⟨none, 0, [], rfl, Nat.le_refl _, ⟨rfl, by decide, fun h => absurd h (Nat.lt_irrefl _)⟩, by simp [Rows.uptoBulk, totW]⟩
  · injection hcs with hcs
    subst hcs
    have hle : len ≤ ss.length := by rw [hss]; split <;> omega
    have hlen : ((ss.take len).map (·.data.toList)).length = len := by rw [List.length_map, List.length_take]; omega
    have hmap : ((ss.take len).map (·.data.toList)).map Bs = ss.take len := by
      rw [List.map_map]
      conv => rhs; rw [← List.map_id (ss.take len)]
      exact List.map_congr_left fun s _ => Bs_data s
    refine ⟨some a, cap, (ss.take len).map (·.data.toList), by rw [hlen], by rw [hlen]; exact hl, ?_, ?_⟩
    · rw [hlen, hmap]
      refine ⟨by rw [List.length_take]; omega, by unfold maxLen at hm; omega, fun _ => ⟨a, rfl, fun j p hj => ⟨[.string p], rfl, rfl, fun i u hu => ?_⟩⟩⟩
      have hjl : j < len := by
        have := (List.getElem?_eq_some_iff.1 hj).1
        rw [List.length_take] at this
        omega
      have hi : i = 0 := by
        have := (List.getElem?_eq_some_iff.1 hu).1
        simp at this
        exact this
      subst hi
      simp at hu
      subst hu
      show w.cell? (a.add (j * 1 + 0)) = _
      rw [show j * 1 + 0 = j from by omega, hcell j (by omega), List.getD_eq_getElem?_getD]
      rw [List.getElem?_take, if_pos hjl] at hj
      rw [hj]
      rfl
    · simp only [Rows.uptoBulk, bulk_strs]
      omega
def LineAt (w : World) (a : Addr) (i : Nat) (E : List (DataW H)) (x : List (List UInt8)) : Prop :=
  (∃ A c, w.cell? (a.add i) = some (.slice A x.length c) ∧ x.length ≤ c ∧ Kd.C Kd.string w A x.length (x.map Bs)) ∧ ∃ d, E[i]? = some d ∧ totW x + 1 ≤ Rows.uptoBulk d
theorem tot_le {E : List (DataW H)} {L : List (List (List UInt8))} (hl : L.length = E.length) (h : ∀ (i : Nat) (x : List (List UInt8)) (d : DataW H), L[i]? = some x → E[i]? = some d → totW x + 1 ≤ Rows.uptoBulk d) : tot L ≤ Rows.uptoBulkAll E := by
  induction L generalizing E with
  | nil => simp [tot]
  | cons x r ih =>
    cases E with
    | nil => simp at hl
    | cons d E =>
      have h0 := h 0 x d rfl rfl
      have h1 := ih (E := E) (by simpa using hl) fun i y e hy he => h (i + 1) y e (by simpa using hy) (by simpa using he)
      rw [tot_cons]
      simp only [Rows.uptoBulkAll]
      omega
theorem open_lines {fuel : Nat} {v : Value} {x : DataW H × List MemPlace} (h : DataW.trod enc Tryd.prog w base sp held fuel 23 [v] = some x) :
    ∃ (A : Option Addr) (c : Nat) (L : List (List (List UInt8))), v = .slice A L.length c ∧ L.length ≤ c ∧ Kd.C (Kd.slice 9 Kd.string) w A L.length (conv L) ∧ tot L ≤ Rows.uptoBulk x.1 := by
  rcases DataW.trod_slice Tryd.underlying23 h with ⟨hcs, rfl⟩ | ⟨a, len, cap, elems, rest, n, _, hcs, rfl, _, hl, hm, hlen, hel, _⟩
  · injection hcs with hcs
    subst hcs
    exact ⟨none, 0, [], rfl, Nat.le_refl _, ⟨rfl, by decide, fun h => absurd h (Nat.lt_irrefl _)⟩, by simp [tot]⟩
  · injection hcs with hcs
    subst hcs
    have each : ∀ i, ∃ x : List (List UInt8), i < len → LineAt w a i (elems.map (·.1)) x := fun i => by
      by_cases hi : i < len
      · have h1 := hel i hi
        rw [cells33, Nat.mul_one, List.getElem?_eq_getElem (by omega), Option.bind_eq_some_iff] at h1
        obtain ⟨cs, hc, h1⟩ := h1
        obtain ⟨hcl, hcell⟩ := cells_get hc
        obtain ⟨u, rfl⟩ : ∃ u, cs = [u] := by
          match cs, hcl with
          | [u], _ => exact ⟨u, rfl⟩
        have h0 := hcell 0 (by omega)
        rw [Addr.add_add, Nat.add_zero] at h0
        obtain ⟨A, c, t, rfl, ht, hC, hb⟩ := open_line h1
        exact ⟨t, fun _ => ⟨⟨A, c, h0, ht, hC⟩, _, by rw [List.getElem?_map, List.getElem?_eq_getElem (by omega)]; rfl, hb⟩⟩
      · exact ⟨[], fun h => absurd h hi⟩
    let f := fun i => Classical.choose (each i)
    have hf : ∀ i, i < len → LineAt w a i (elems.map (·.1)) (f i) := fun i => Classical.choose_spec (each i)
    have hlen' : ((List.range len).map f).length = len := by simp
    have get : ∀ j p, ((List.range len).map f)[j]? = some p → j < len ∧ p = f j := fun j p hj => by
      have := (List.getElem?_eq_some_iff.1 hj).1
      rw [hlen'] at this
      rw [List.getElem?_map, List.getElem?_range this] at hj
      exact ⟨this, (Option.some.inj hj).symm⟩
    refine ⟨some a, cap, (List.range len).map f, by rw [hlen'], by rw [hlen']; exact hl, ⟨by rw [conv_length], by rw [hlen']; unfold maxLen at hm; omega, fun _ => ⟨a, rfl, fun j p hj => ?_⟩⟩, ?_⟩
    · unfold conv at hj
      rw [List.getElem?_map, Option.map_eq_some_iff] at hj
      obtain ⟨q, hq, rfl⟩ := hj
      obtain ⟨hjl, rfl⟩ := get j q hq
      obtain ⟨⟨A, c, hcell, hlc, hC⟩, _⟩ := hf j hjl
      refine ⟨[.slice A (f j).length c], rfl, ⟨A, c, by rw [List.length_map], by rw [List.length_map]; exact hlc, by rw [List.length_map]; exact hC⟩, fun i u hu => ?_⟩
      have hi : i = 0 := by
        have := (List.getElem?_eq_some_iff.1 hu).1
        simp at this
        exact this
      subst hi
      simp at hu
      subst hu
      show w.cell? (a.add (j * 1 + 0)) = _
      rw [show j * 1 + 0 = j from by omega]
      exact hcell
    · have h1 : tot ((List.range len).map f) ≤ Rows.uptoBulkAll (elems.map (·.1)) := tot_le (by rw [hlen', List.length_map]; exact hlen.symm) fun i x d hx hd => by
        obtain ⟨hil, rfl⟩ := get i x hx
        obtain ⟨_, d', hd', hb⟩ := hf i hil
        rw [hd'] at hd
        injection hd with hd
        subst hd
        exact hb
      simp only [Rows.uptoBulk]
      omega
end

set_option maxRecDepth 100000 in
theorem contract (H : Type) (enc : TypeId × Value → H) (W : World) (base : Nat) (args : Array Value) (ds gs : List (DataW H)) (before : List MemPlace)
    (hval : ∀ (j : Nat) t v, Tryd.f4.params[j]? = some t → args[j]? = some v → Value.okWide Tryd.prog W .any base t v)
    (hW : DataW.Whole enc Tryd.prog Tryd.f4.params.toList Rows.wordJoinsSpec.vars false W args.toList ds gs before)
    (hk : Rows.uptoSmall H (ds ++ gs) = true)
    (hL : laidMetH Tryd.prog Rows.wordJoinsUptoRow.laid W) (hsh : W.ShapedOpen Tryd.prog) :
    Calls Tryd.prog 4 args W fun e W' => ∃ v, e = .returned v ∧ Rows.wordJoinsSpec.post enc Tryd.prog Tryd.f4 false true false false W args v W' := by
  have hW' := hW
  obtain ⟨p, q, hA0, hV, rfl, hfz, hnd⟩ := hW
  have hA : DataW.TrodAll enc Tryd.prog W 0 (fun _ => true) true Tryd.f4.params.toList args.toList ds p := hA0
  rw [Tryd.params4] at hA hval
  obtain ⟨v0, vs0, d0, ds0, p0, q0, hargs, rfl, rfl, h0, r0⟩ := trodAll_cons hA
  obtain ⟨rfl, rfl, rfl⟩ := trodAll_nil r0
  obtain rfl : args = #[v0] := by cases args; simp_all
  obtain ⟨rfl, rfl⟩ := trodVars_none hV
  have k0 := h0
  have lt0 : ∀ x ∈ p0, x.block < W.heap.size := by obtain ⟨m, hm⟩ := k0; exact DataW.trod_lt m _ _ _ hm
  obtain ⟨a0, len0, cap0, rfl⟩ := okWide_slice Tryd.underlying23 (hval 0 23 v0 rfl rfl)
  obtain ⟨fu, h0⟩ := h0
  obtain ⟨A, c, L, e0, hc, hC, hb⟩ := open_lines h0
  injection e0 with e0a e0b e0c
  subst e0a e0b e0c
  have hbulk : tot L ≤ 1048576 := by
    have h1 := of_decide_eq_true hk
    simp only [List.append_nil, Rows.uptoBulkAll] at h1
    dsimp only at hb
    omega
  clear hA0
  have hlc : (conv L).length = L.length := conv_length L
  obtain ⟨k, hk⟩ := Go.Proofs.YtkhdcihjlobhfaaDoorW.PrintWords.Ev.rounds (wordJoins_law L hbulk)
  rw [← hlc] at hC hc
  have hw := lockstitchlaw02_WordJoins.calls k a0 cap0 (conv L) true W hC hc (table hL hsh) hk
  rw [hlc] at hw
  refine hw.mono fun e W' ⟨he, bel⟩ => ?_
  subst he
  exact ⟨_, rfl, _, _, _, [], _, [], hW', trodAll_mk1 (shut_bool Tryd.underlying4 _), (trodAll_cons_mk (Below.trod laidOut (by kernel_rfl) (of_decide_eq_true (by kernel_rfl)) k0 bel lt0) trodAll_mk0), rfl, bel.frame _, fun h => by cases h⟩

set_option maxRecDepth 100000 in
theorem lifted (os : Os) (started : os.Started) (H : Type) (enc : TypeId × Value → H) (F : Stop.Interp) :
    ReturnsInHanded {} Tryd.checked os 4 .any ((Rows.OpenSpec.upto Rows.wordJoinsSpec).preRow enc Tryd.prog Tryd.f4 Rows.wordJoinsUptoRow.domain false Rows.wordJoinsUptoRow.laid) (((Rows.OpenSpec.upto Rows.wordJoinsSpec).at F).post enc Tryd.prog Tryd.f4 false true false false) := by
  have hx : DataW.whole enc Tryd.prog ((laidWorld os).forCall (fun _ _ => 0) ⟨#[], #[.slice none 0 0], []⟩).memory Tryd.f4.params.toList Rows.wordJoinsSpec.vars false (#[.slice none 0 0] : Array Value).toList 8 = some ([.nil], [], []) := by kernel_rfl
  refine returnsInHanded_of_row (C := Tryd.checked) (s := Rows.OpenSpec.upto Rows.wordJoinsSpec) own started (by kernel_rfl) Tryd.func4
    (witness_row_at (enc := enc) (C := Tryd.checked) false (laidWorld os) #[.slice none 0 0] (World.laidAll_os _ _ _) (by kernel_rfl) (by kernel_rfl) (by kernel_rfl)
      (OpenSpec.preRow_of_cond 8 hx (by kernel_rfl) (fun k hk => by injection hk with hk; subst hk; kernel_rfl) (by kernel_rfl) (laid_met os _))) ?_
  intro W base args ds gs before hval hW _ hcond _ hL hsh _
  exact contract H enc W base args ds gs before hval hW (hcond _ rfl) hL hsh

theorem said : Rows.WordJoinsUptoSaid :=
  OpenClaim.holds_of_cond 4 Tryd.f4 rfl rfl rfl rfl rfl rfl rfl ⟨rfl, rfl, rfl, rfl, rfl⟩ rfl rfl rfl rfl rfl (by kernel_rfl) Tryd.func4 (by kernel_rfl)
    (of_decide_eq_true (by kernel_rfl)) (by unfold Func.isWrapper; first | (rw [if_pos (by decide +kernel)]; kernel_rfl) | (rw [if_neg (by decide +kernel)]; exact ⟨rfl, rfl⟩))
    (fun os started H enc _ F => by rw [OpenClaim.pre_eq_preRow]; exact lifted os started H enc F)

theorem plain (f : FuncId) (fn : Func) (hf : Tryd.pinned.checked.prog.funcNamed "lockstitch/lockstitchlaw02.WordJoins" = some f) (hfn : Tryd.pinned.checked.prog.funcs[f]? = some fn) :
    true = Tryd.pinned.checked.prog.looks [] ∧ ∀ (j : Nat) t, fn.params[j]? = some t → Tryd.pinned.checked.prog.wantsStandIn t = false := by
  obtain rfl : f = 4 := Option.some.inj ((show Tryd.prog.funcNamed "lockstitch/lockstitchlaw02.WordJoins" = some 4 by kernel_rfl).symm.trans hf) |>.symm
  obtain rfl : fn = Tryd.f4 := (Option.some.inj (Tryd.func4.symm.trans hfn)).symm
  refine ⟨by kernel_rfl, fun j t ht => ?_⟩
  rw [Tryd.params4] at ht
  obtain rfl : t = 23 := by simpa using Array.mem_of_getElem? ht
  exact (show Tryd.prog.wantsStandIn 23 = false by kernel_rfl)

theorem card : Rows.WordJoinsUptoCardSaid :=
  Claim7.holds_tied_plain_at .later [] _ _ _ _ said (fun _ h => by cases h) (by kernel_rfl) (fun _ h => by cases h) wordJoinsUpto_row_tie rfl ⟨rfl, rfl⟩ (by kernel_rfl) rfl plain (by kernel_rfl)
end Go.Proofs.YtkhdcihjlobhfaaDoor.wordJoins
namespace Go.Proofs.YtkhdcihjlobhfaaDoor
/-- WordJoins, for every input of bulk at most 1048576. -/
theorem wordJoins_holds : Rows.WordJoinsUptoCardSaid := wordJoins.card
#print axioms wordJoins_holds
end Go.Proofs.YtkhdcihjlobhfaaDoor
