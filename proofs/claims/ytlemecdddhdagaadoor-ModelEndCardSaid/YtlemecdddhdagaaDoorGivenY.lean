/-
  (*State).do AS A LEAN FUNCTION, and that the program's is this.
-/
import Derived.Test.YtlemecdddhdagaaDoorGivenV
import Derived.Test.YtlemecdddhdagaaDoorGivenX
namespace Go.Proofs.YtlemecdddhdagaaDoor.P
open Go.RowKit Go.Proofs.YtlemecdddhdagaaDoorW.PrintWords Go.Proofs.YtlemecdddhdagaaDoorW.PrintLast Go.Proofs.YtlemecdddhdagaaDoorW.PrintMore
set_option linter.unusedVariables false
set_option linter.unusedSimpArgs false
attribute [local go_sem ↓] Go.wp_at_zero Go.wp_at_succ

set_option maxRecDepth 100000 in
set_option maxHeartbeats 3200000 in
theorem store_zero (b : Nat) (s : St) (vO vU : Value) (op a bb cc : Nat) (n : Int) (ha : a < 8) (hz : s.p a = 0) (w : World) (h : StR b s vO vU w) :
    Calls Tryd.prog 38 #[.pointer (some ⟨b, 0, none⟩), .agg #[.int .u8 op, .int .u8 a, .int .u8 bb, .int .u8 cc, .int .i64 n]] w fun e w' => e = .returned (.int .i64 9) ∧ StR b s vO vU w' ∧ Ow b w w' := by
  have hlt := h.lt
  have hai : (a : Int) < 8 := by omega
  have HP := Aside0.mk (midL_of (I := #[.int .u8 op, .int .u8 a, .int .u8 bb, .int .u8 cc, .int .i64 n]) h)
  clear h
  go_enter Tryd.func38, Tryd.ntmps38
  go_wp2
  generalize w.alloc (.cells #[.int .u8 op, .int .u8 a, .int .u8 bb, .int .u8 cc, .int .i64 n] 55) = W at HP ⊢
  have i1 : W.cell? ⟨w.heap.size, 1, none⟩ = some (.int .u8 a) := HP.out.ins 1 _ rfl
  have ca : W.cell? ⟨b, 8 + a, none⟩ = some (.int .i64 0) := by rw [HP.out.st.p_at a ha, hz]
  clear hz
  go_quiet (fail)
  rename_i nq
  have HQ := Aside0.mk (HP.out.drewN nq)
  clear HP ca i1
  generalize W.drewN nq = W2 at HQ ⊢
  go_wp2
  go_ret
  exact ⟨rfl, HQ.out.st, HQ.out.ow⟩

/-- A field of an object, and what a store into it does. -/
theorem Rows.lend {base b : Nat} {s : St} {vO vU : Value} {W : World} (hR : Rows base b s vO vU W) (hlt : b < W.heap.size) (hb : base ≤ b) (o n : Int) (ho1 : 1 ≤ o) (ho2 : o ≤ s.objs.length) (row : List Int) (hrow : s.objs.getD (o - 1).toNat [] = row) (hn0 : 0 ≤ n) (hn1 : n < row.length) :
    ∃ ad ad2 cO c1 old, vO = .slice (some ad) s.objs.length cO ∧ W.cell? (ad.add (o.toNat - 1)) = some (.slice (some ad2) row.length c1) ∧ W.cell? (ad2.add n.toNat) = some old ∧ W.frozen? (ad2.add n.toNat) = false ∧
      ∀ (o' : Obj) (k : Nat) (v : Int) (s' : St), s'.objs = s.objs.set (o - 1).toNat (row.set n.toNat v) → s'.out = s.out →
        Rows base b s' vO vU (((W.alloc o').drewN k).setCell (ad2.add n.toNat) (.int .i64 v)) ∧ (((W.alloc o').drewN k).setCell (ad2.add n.toNat) (.int .i64 v)).heap[b]? = W.heap[b]? ∧ Below base W (((W.alloc o').drewN k).setCell (ad2.add n.toNat) (.int .i64 v)) := by
  obtain ⟨hS, hU⟩ := hR
  obtain ⟨g, cO, rfl, hg1, hg2, _⟩ := Kd.S_form hS (by omega)
  obtain ⟨oki, c, hcl, hM, hcc, hoki, hback⟩ := Kd.S_borrow hS ([] : List Int) (o - 1) (by omega) (by omega)
  rw [hrow] at hM
  obtain ⟨v, rfl, hv⟩ := hM
  obtain ⟨g2, c1, rfl, hg3, hg4, _⟩ := Kd.R_form hv (by omega)
  obtain ⟨e1, e2⟩ := Kd.R_celln (h1 := fun _ => rfl) (0 : Int) hv n hn0 hn1
  have hki : oki g2 := hv.1 g2 (by simp [Value.ownBlock])
  obtain ⟨⟨hnb, hnU⟩, hnO⟩ := hoki g2 hki
  have ea : (⟨g2, 0, none⟩ : Addr).add n.toNat = ⟨g2, n.toNat, none⟩ := by rw [add_at, Nat.zero_add]
  refine ⟨⟨g, 0, none⟩, ⟨g2, 0, none⟩, cO, c1, _, rfl, ?_, by rw [ea]; exact e1, by rw [ea]; exact e2, fun o' k x s' hs1 hs2 => ?_⟩
  · have := hcc 0 _ rfl
    rw [show (o - 1).toNat * kRow.sz + 0 = o.toNat - 1 by show (o - 1).toNat * 1 + 0 = _; omega] at this
    exact this
  · rw [ea]
    have hv1 : (Kd.int .i64).R 2 ((W.alloc o').drewN k) base oki (.slice (some ⟨g2, 0, none⟩) row.length c1) row := Kd.R_step hv (fun j _ hj => Below.heap_alloc W o' j hj)
    obtain ⟨hp, hgr⟩ := Kd.R_putg (h1 := fun _ => rfl) hv1 n x
    have hG : W.grownBy (((W.alloc o').drewN k).setCell ⟨g2, n.toNat, none⟩ (.int .i64 x)) (some g2) := by
      refine ⟨hgr.os, hgr.tape, hgr.output, Nat.le_trans (show W.heap.size ≤ (W.heap.push o').size by simp) hgr.size, fun j hj hn => ?_⟩
      rw [hgr.block j (Nat.lt_of_lt_of_le hj (by show W.heap.size ≤ (W.heap.push o').size; simp)) hn]
      exact Below.heap_alloc W o' j hj
    refine ⟨⟨?_, ?_⟩, hG.block b hlt (fun he => hnb (by injection he with he; exact he.symm)), ?_⟩
    · rw [hs1]
      exact hback hG (fun j hj => by injection hj with hj; exact hj ▸ hki) ⟨_, rfl, hp⟩
    · rw [hs2]
      have hUb : some b ≠ vU.ownBlock := Kd.R_away hU (fun k hk => hk)
      exact Kd.R_mono (Kd.R_step (Kd.R_tight (show (Kd.int .i64).E = [] from rfl) hU) (fun j hj hlt => hG.block j hlt (fun he => hnU (by rw [← he, hj])))) (fun j hj he => hUb (he ▸ hj))
    · exact (Below.refl base W).grown hG (by omega) (fun j hj => by injection hj with hj; omega)

/-- What a program's pointer is worth: the words of its type. -/
def szF (k : Nat) (l0 : List ByteArray) (a1 a2 : ByteArray) (l3 : List S55) (a : Int) : Option Int := (check_Local.f k l0 a1 a2 l3 a).bind (kind_Size.f k l0)
def rowOf (s : St) (o : Int) : List Int := s.objs.getD (o - 1).toNat []
/-- May the field n of the object o be read? -/
def Fld (s : St) (o n : Int) : Prop := 1 ≤ o ∧ o ≤ s.objs.length ∧ 0 ≤ n ∧ n < (rowOf s o).length
instance (s : St) (o n : Int) : Decidable (Fld s o n) := inferInstanceAs (Decidable (1 ≤ o ∧ o ≤ s.objs.length ∧ 0 ≤ n ∧ n < (rowOf s o).length))
/-- An instruction done; none: what the program never does (an index out of its row), or more than is thought of here. -/
def doX (sz : Int → Option Int) (s : St) (op : Int) (a bb cc : Nat) (n : Int) : Option (St × Int) :=
    if op = 1 then if a < 8 then some ({ bump s with x := upd s.x a n }, 0) else none
    else if op = 2 then if a < 8 ∧ bb < 8 ∧ cc < 8 then some ({ bump s with x := upd s.x a (wrap64 (s.x bb + s.x cc)) }, 0) else none
    else if op = 3 then some ({ bump s with pc := n }, 0)
    else if op = 4 then if a < 8 then if s.x a = 0 then some ({ bump s with pc := n }, 0) else some (bump s, 0) else none
    else if op = 5 then if a < 8 then (sz a).bind fun z => if 0 ≤ z ∧ z ≤ 1000000 then some ({ bump s with objs := s.objs ++ [List.replicate z.toNat 0], p := upd s.p a ((s.objs.length : Int) + 1) }, 0) else none else none
    else if op = 6 then if a < 8 then some ({ bump s with p := upd s.p a 0 }, 0) else none
    else if op = 7 then if a < 8 ∧ bb < 8 then some ({ bump s with p := upd s.p a (s.p bb) }, 0) else none
    else if op = 8 then if a < 8 ∧ bb < 8 then if s.p bb = 0 then some (bump s, 9) else if Fld s (s.p bb) n then some ({ bump s with x := upd s.x a (rd (rowOf s (s.p bb)) n) }, 0) else none else none
    else if op = 9 then if a < 8 ∧ bb < 8 then if s.p a = 0 then some (bump s, 9) else if Fld s (s.p a) n then some ({ bump s with objs := s.objs.set (s.p a - 1).toNat ((rowOf s (s.p a)).set n.toNat (s.x bb)) }, 0) else none else none
    else if op = 10 then if a < 8 ∧ bb < 8 then if s.p bb = 0 then some (bump s, 9) else if Fld s (s.p bb) n then some ({ bump s with p := upd s.p a (rd (rowOf s (s.p bb)) n) }, 0) else none else none
    else if op = 11 then if a < 8 ∧ bb < 8 then if s.p a = 0 then some (bump s, 9) else if Fld s (s.p a) n then some ({ bump s with objs := s.objs.set (s.p a - 1).toNat ((rowOf s (s.p a)).set n.toNat (s.p bb)) }, 0) else none else none
    else if op = 12 then if a < 8 ∧ bb < 4 then some ({ bump s with p := upd s.p a (s.g bb) }, 0) else none
    else if op = 13 then if a < 4 ∧ bb < 8 then some ({ bump s with g := upd s.g a (s.p bb) }, 0) else none
    else if op = 14 then if a < 8 then some ({ bump s with out := s.out ++ [s.x a] }, 0) else none
    else if op = 15 then if a < 8 ∧ bb < 8 ∧ cc < 8 then some ({ bump s with x := upd s.x a (if s.p bb = s.p cc then 1 else 0) }, 0) else none
    else none

def doF (sz : Int → Option Int) (s : St) (i : S55) : Option (St × Int) :=
  if 0 ≤ i.f1 ∧ 0 ≤ i.f2 ∧ 0 ≤ i.f3 ∧ s.objs.length ≤ 1000000 ∧ s.out.length ≤ 1000000 then doX sz s i.f0 i.f1.toNat i.f2.toNat i.f3.toNat i.f4 else none

theorem upd_twice (f : Nat → Int) (j : Nat) (u v : Int) : upd (upd f j u) j v = upd f j v := by
  funext i
  unfold upd
  split <;> rfl
theorem own_of {base b : Nat} {s s' : St} {vO vU : Value} {w w' : World} (hb : base ≤ b) (hlt : b < w.heap.size) (hR : Rows base b s vO vU w) (h1 : StR b s' vO vU w') (h2 : Ow b w w') (e1 : s'.objs = s.objs) (e2 : s'.out = s.out) : OwnM base b s' w' ∧ Below base w w' :=
  ⟨⟨hb, vO, vU, h1, hR.ow h2 e1 e2⟩, h2.low hb hlt⟩

section
variable {k b : Nat} {s s' : St} {e : Int} {A0 A3 : Option Addr} {c0 c3 : Nat} {l0 : List ByteArray} {a1 a2 : ByteArray} {l3 : List S55} {W0 w : World}
theorem do_load8 {vO vU : Value} {a bb cc : Nat} {n : Int} (ha : a < 8) (hbb : bb < 8) (hl1 : s.objs.length ≤ 1000000) (hb : W0.heap.size ≤ b) (hst : StR b s vO vU w) (hR : Rows W0.heap.size b s vO vU w) (p0 p1 p2 p3 : Value) (hF : Fld s (s.p bb) n) :
    Calls Tryd.prog 22 #[.pointer (some ⟨b, 0, none⟩), .agg #[p0, p1, p2, p3], .agg #[.int .u8 8, .int .u8 a, .int .u8 bb, .int .u8 cc, .int .i64 n]] w fun e' w' => e' = .returned (.int .i64 0) ∧ OwnM W0.heap.size b { bump s with x := upd s.x a (rd (rowOf s (s.p bb)) n) } w' ∧ Below W0.heap.size w w' := by
  have hlt := hst.lt
  obtain ⟨h1, h2, h3, h4⟩ := hF
  refine do_8 b s vO vU a bb cc n 0 w hst p0 p1 p2 p3 _ fun W hM => ?_
  have hRW := hR.ow (s' := bump s) hM.ow rfl rfl
  obtain ⟨A, cO, rfl, _, hC⟩ := Kd.S_reads hRW.objs
  refine (load_x b (bump s) A cO vU a bb cc n (s.p bb) _ (rowOf s (s.p bb)) ha hbb rfl h1 h2 (by show s.objs.length ≤ _; omega) rfl h3 h4 rfl W hM.st hC).mono ?_
  rintro e' w' ⟨rfl, q1, q2⟩
  have q := own_of (s' := { bump s with x := upd s.x a (rd (rowOf s (s.p bb)) n) }) hb hlt hR q1 (hM.ow.trans q2) rfl rfl
  exact ⟨rfl, q.1, q.2⟩
theorem do_load10 {vO vU : Value} {a bb cc : Nat} {n : Int} (ha : a < 8) (hbb : bb < 8) (hl1 : s.objs.length ≤ 1000000) (hb : W0.heap.size ≤ b) (hst : StR b s vO vU w) (hR : Rows W0.heap.size b s vO vU w) (p0 p1 p2 p3 : Value) (hF : Fld s (s.p bb) n) :
    Calls Tryd.prog 22 #[.pointer (some ⟨b, 0, none⟩), .agg #[p0, p1, p2, p3], .agg #[.int .u8 10, .int .u8 a, .int .u8 bb, .int .u8 cc, .int .i64 n]] w fun e' w' => e' = .returned (.int .i64 0) ∧ OwnM W0.heap.size b { bump s with p := upd s.p a (rd (rowOf s (s.p bb)) n) } w' ∧ Below W0.heap.size w w' := by
  have hlt := hst.lt
  obtain ⟨h1, h2, h3, h4⟩ := hF
  refine do_10 b s vO vU a bb cc n 0 w hst p0 p1 p2 p3 _ fun W hM => ?_
  have hRW := hR.ow (s' := bump s) hM.ow rfl rfl
  obtain ⟨A, cO, rfl, _, hC⟩ := Kd.S_reads hRW.objs
  refine (load_p b (bump s) A cO vU a bb cc n (s.p bb) _ (rowOf s (s.p bb)) ha hbb rfl h1 h2 (by show s.objs.length ≤ _; omega) rfl h3 h4 rfl W hM.st hC).mono ?_
  rintro e' w' ⟨rfl, q1, q2⟩
  have q := own_of (s' := { bump s with p := upd s.p a (rd (rowOf s (s.p bb)) n) }) hb hlt hR q1 (hM.ow.trans q2) rfl rfl
  exact ⟨rfl, q.1, q.2⟩
theorem do_store9 {vO vU : Value} {a bb cc : Nat} {n : Int} (ha : a < 8) (hbb : bb < 8) (hl1 : s.objs.length ≤ 1000000) (hb : W0.heap.size ≤ b) (hst : StR b s vO vU w) (hR : Rows W0.heap.size b s vO vU w) (p0 p1 p2 p3 : Value) (hF : Fld s (s.p a) n) :
    Calls Tryd.prog 22 #[.pointer (some ⟨b, 0, none⟩), .agg #[p0, p1, p2, p3], .agg #[.int .u8 9, .int .u8 a, .int .u8 bb, .int .u8 cc, .int .i64 n]] w fun e' w' => e' = .returned (.int .i64 0) ∧ OwnM W0.heap.size b { bump s with objs := s.objs.set (s.p a - 1).toNat ((rowOf s (s.p a)).set n.toNat (s.x bb)) } w' ∧ Below W0.heap.size w w' := by
  have hlt := hst.lt
  obtain ⟨h1, h2, h3, h4⟩ := hF
  refine do_9 b s vO vU a bb cc n 0 w hst p0 p1 p2 p3 _ fun W hM => ?_
  have hRW := hR.ow (s' := bump s) hM.ow rfl rfl
  obtain ⟨ad, ad2, cO, c1, old, rfl, x1, x2, x3, x4⟩ := hRW.lend hM.st.lt hb (s.p a) n h1 h2 (rowOf s (s.p a)) rfl h3 h4
  refine (store_x b (bump s) ad ad2 cO c1 _ vU old a bb cc n (s.p a) ha hbb rfl h1 h2 (by show s.objs.length ≤ _; omega) h3 h4 W hM.st x1 x2 x3).mono ?_
  rintro e' w' ⟨rfl, m, rfl⟩
  obtain ⟨y1, y2, y3⟩ := x4 (.cells #[.int .u8 9, .int .u8 a, .int .u8 bb, .int .u8 cc, .int .i64 n] 55) m (s.x bb) { bump s with objs := s.objs.set (s.p a - 1).toNat ((rowOf s (s.p a)).set n.toNat (s.x bb)) } rfl rfl
  exact ⟨rfl, ⟨hb, _, _, ⟨(hM.st.of_block y2).blk⟩, y1⟩, (hM.ow.low hb hlt).trans y3⟩
theorem do_store11 {vO vU : Value} {a bb cc : Nat} {n : Int} (ha : a < 8) (hbb : bb < 8) (hl1 : s.objs.length ≤ 1000000) (hb : W0.heap.size ≤ b) (hst : StR b s vO vU w) (hR : Rows W0.heap.size b s vO vU w) (p0 p1 p2 p3 : Value) (hF : Fld s (s.p a) n) :
    Calls Tryd.prog 22 #[.pointer (some ⟨b, 0, none⟩), .agg #[p0, p1, p2, p3], .agg #[.int .u8 11, .int .u8 a, .int .u8 bb, .int .u8 cc, .int .i64 n]] w fun e' w' => e' = .returned (.int .i64 0) ∧ OwnM W0.heap.size b { bump s with objs := s.objs.set (s.p a - 1).toNat ((rowOf s (s.p a)).set n.toNat (s.p bb)) } w' ∧ Below W0.heap.size w w' := by
  have hlt := hst.lt
  obtain ⟨h1, h2, h3, h4⟩ := hF
  refine do_11 b s vO vU a bb cc n 0 w hst p0 p1 p2 p3 _ fun W hM => ?_
  have hRW := hR.ow (s' := bump s) hM.ow rfl rfl
  obtain ⟨ad, ad2, cO, c1, old, rfl, x1, x2, x3, x4⟩ := hRW.lend hM.st.lt hb (s.p a) n h1 h2 (rowOf s (s.p a)) rfl h3 h4
  refine (store_p b (bump s) ad ad2 cO c1 _ vU old a bb cc n (s.p a) ha hbb rfl h1 h2 (by show s.objs.length ≤ _; omega) h3 h4 W hM.st x1 x2 x3).mono ?_
  rintro e' w' ⟨rfl, m, rfl⟩
  obtain ⟨y1, y2, y3⟩ := x4 (.cells #[.int .u8 11, .int .u8 a, .int .u8 bb, .int .u8 cc, .int .i64 n] 55) m (s.p bb) { bump s with objs := s.objs.set (s.p a - 1).toNat ((rowOf s (s.p a)).set n.toNat (s.p bb)) } rfl rfl
  exact ⟨rfl, ⟨hb, _, _, ⟨(hM.st.of_block y2).blk⟩, y1⟩, (hM.ow.low hb hlt).trans y3⟩
theorem do_x (hB : Below W0.heap.size W0 w) (hr0 : Kd.C Kd.string W0 A0 l0.length l0) (hc0 : l0.length ≤ c0) (hr3 : Kd.C k55 W0 A3 l3.length l3) (hc3 : l3.length ≤ c3) (hM : OwnM W0.heap.size b s w) (op : Int) (a bb cc : Nat) (n : Int) (g4 : s.objs.length ≤ 1000000) (g5 : s.out.length ≤ 1000000) (h : doX (szF k l0 a1 a2 l3) s op a bb cc n = some (s', e)) :
    Calls Tryd.prog 22 #[.pointer (some ⟨b, 0, none⟩), .agg #[.slice A0 l0.length c0, .string a1, .string a2, .slice A3 l3.length c3], .agg #[.int .u8 op, .int .u8 a, .int .u8 bb, .int .u8 cc, .int .i64 n]] w fun e' w' => e' = .returned (.int .i64 e) ∧ OwnM W0.heap.size b s' w' ∧ Below W0.heap.size w w' := by
  obtain ⟨hb, vO, vU, hst, hR⟩ := hM
  have hlt := hst.lt
  unfold doX at h
  by_cases he : op = 1
  · rw [if_pos he] at h
    subst he
    split at h
    case isFalse => cases h
    obtain ⟨rfl, rfl⟩ := Prod.mk.inj (Option.some.inj h)
    refine (do_1 b s vO vU a bb cc n (by omega) w hst _ _ _ _).mono ?_
    rintro e' w' ⟨rfl, q1, q2⟩
    exact ⟨rfl, own_of hb hlt hR q1 q2 rfl rfl⟩
  rw [if_neg he] at h
  clear he
  by_cases he : op = 2
  · rw [if_pos he] at h
    subst he
    split at h
    case isFalse => cases h
    rename_i hx
    obtain ⟨rfl, rfl⟩ := Prod.mk.inj (Option.some.inj h)
    refine (do_2 b s vO vU a bb cc n (by omega) (by omega) (by omega) w hst _ _ _ _).mono ?_
    rintro e' w' ⟨rfl, q1, q2⟩
    exact ⟨rfl, own_of hb hlt hR q1 q2 rfl rfl⟩
  rw [if_neg he] at h
  clear he
  by_cases he : op = 3
  · rw [if_pos he] at h
    subst he
    obtain ⟨rfl, rfl⟩ := Prod.mk.inj (Option.some.inj h)
    refine (do_3 b s vO vU a bb cc n w hst _ _ _ _).mono ?_
    rintro e' w' ⟨rfl, q1, q2⟩
    exact ⟨rfl, own_of hb hlt hR q1 q2 rfl rfl⟩
  rw [if_neg he] at h
  clear he
  by_cases he : op = 4
  · rw [if_pos he] at h
    subst he
    split at h
    case isFalse => cases h
    split at h
    · rename_i hz
      obtain ⟨rfl, rfl⟩ := Prod.mk.inj (Option.some.inj h)
      refine (do_4_yes b s vO vU a bb cc n (by omega) hz w hst _ _ _ _).mono ?_
      rintro e' w' ⟨rfl, q1, q2⟩
      exact ⟨rfl, own_of hb hlt hR q1 q2 rfl rfl⟩
    · rename_i hz
      obtain ⟨rfl, rfl⟩ := Prod.mk.inj (Option.some.inj h)
      refine (do_4_no b s vO vU a bb cc n (by omega) hz w hst _ _ _ _).mono ?_
      rintro e' w' ⟨rfl, q1, q2⟩
      exact ⟨rfl, own_of hb hlt hR q1 q2 rfl rfl⟩
  rw [if_neg he] at h
  clear he
  by_cases he : op = 5
  · rw [if_pos he] at h
    subst he
    split at h
    case isFalse => cases h
    obtain ⟨z, hz, h⟩ := Option.bind_eq_some_iff.1 h
    obtain ⟨t, ht, hz⟩ := Option.bind_eq_some_iff.1 hz
    split at h
    case isFalse => cases h
    obtain ⟨rfl, rfl⟩ := Prod.mk.inj (Option.some.inj h)
    exact do_5 k b s vO vU a bb cc n A0 c0 l0 a1 a2 A3 c3 l3 t z (by omega) (by omega) ht hz (by omega) (by omega) W0 w hb hB hr0 hc0 hr3 hc3 hst hR
  rw [if_neg he] at h
  clear he
  by_cases he : op = 6
  · rw [if_pos he] at h
    subst he
    split at h
    case isFalse => cases h
    obtain ⟨rfl, rfl⟩ := Prod.mk.inj (Option.some.inj h)
    refine (do_6 b s vO vU a bb cc n (by omega) w hst _ _ _ _).mono ?_
    rintro e' w' ⟨rfl, q1, q2⟩
    exact ⟨rfl, own_of hb hlt hR q1 q2 rfl rfl⟩
  rw [if_neg he] at h
  clear he
  by_cases he : op = 7
  · rw [if_pos he] at h
    subst he
    split at h
    case isFalse => cases h
    obtain ⟨rfl, rfl⟩ := Prod.mk.inj (Option.some.inj h)
    refine (do_7 b s vO vU a bb cc n (by omega) (by omega) w hst _ _ _ _).mono ?_
    rintro e' w' ⟨rfl, q1, q2⟩
    exact ⟨rfl, own_of hb hlt hR q1 q2 rfl rfl⟩
  rw [if_neg he] at h
  clear he
  by_cases he : op = 8
  · rw [if_pos he] at h
    subst he
    split at h
    case isFalse => cases h
    split at h
    · rename_i hz
      obtain ⟨rfl, rfl⟩ := Prod.mk.inj (Option.some.inj h)
      refine do_8 b s vO vU a bb cc n 9 w hst _ _ _ _ _ fun W hM => ?_
      refine (load_zero b (bump s) vO vU 8 a bb cc n (by omega) hz W hM.st).mono ?_
      rintro e' w' ⟨rfl, q1, q2⟩
      exact ⟨rfl, own_of hb hlt hR q1 (hM.ow.trans q2) rfl rfl⟩
    · split at h
      case isFalse => cases h
      rename_i hF
      obtain ⟨rfl, rfl⟩ := Prod.mk.inj (Option.some.inj h)
      exact do_load8 (by omega) (by omega) g4 hb hst hR _ _ _ _ hF
  rw [if_neg he] at h
  clear he
  by_cases he : op = 9
  · rw [if_pos he] at h
    subst he
    split at h
    case isFalse => cases h
    split at h
    · rename_i hz
      obtain ⟨rfl, rfl⟩ := Prod.mk.inj (Option.some.inj h)
      refine do_9 b s vO vU a bb cc n 9 w hst _ _ _ _ _ fun W hM => ?_
      refine (store_zero b (bump s) vO vU 9 a bb cc n (by omega) hz W hM.st).mono ?_
      rintro e' w' ⟨rfl, q1, q2⟩
      exact ⟨rfl, own_of hb hlt hR q1 (hM.ow.trans q2) rfl rfl⟩
    · split at h
      case isFalse => cases h
      rename_i hF
      obtain ⟨rfl, rfl⟩ := Prod.mk.inj (Option.some.inj h)
      exact do_store9 (by omega) (by omega) g4 hb hst hR _ _ _ _ hF
  rw [if_neg he] at h
  clear he
  by_cases he : op = 10
  · rw [if_pos he] at h
    subst he
    split at h
    case isFalse => cases h
    split at h
    · rename_i hz
      obtain ⟨rfl, rfl⟩ := Prod.mk.inj (Option.some.inj h)
      refine do_10 b s vO vU a bb cc n 9 w hst _ _ _ _ _ fun W hM => ?_
      refine (load_zero b (bump s) vO vU 10 a bb cc n (by omega) hz W hM.st).mono ?_
      rintro e' w' ⟨rfl, q1, q2⟩
      exact ⟨rfl, own_of hb hlt hR q1 (hM.ow.trans q2) rfl rfl⟩
    · split at h
      case isFalse => cases h
      rename_i hF
      obtain ⟨rfl, rfl⟩ := Prod.mk.inj (Option.some.inj h)
      exact do_load10 (by omega) (by omega) g4 hb hst hR _ _ _ _ hF
  rw [if_neg he] at h
  clear he
  by_cases he : op = 11
  · rw [if_pos he] at h
    subst he
    split at h
    case isFalse => cases h
    split at h
    · rename_i hz
      obtain ⟨rfl, rfl⟩ := Prod.mk.inj (Option.some.inj h)
      refine do_11 b s vO vU a bb cc n 9 w hst _ _ _ _ _ fun W hM => ?_
      refine (store_zero b (bump s) vO vU 11 a bb cc n (by omega) hz W hM.st).mono ?_
      rintro e' w' ⟨rfl, q1, q2⟩
      exact ⟨rfl, own_of hb hlt hR q1 (hM.ow.trans q2) rfl rfl⟩
    · split at h
      case isFalse => cases h
      rename_i hF
      obtain ⟨rfl, rfl⟩ := Prod.mk.inj (Option.some.inj h)
      exact do_store11 (by omega) (by omega) g4 hb hst hR _ _ _ _ hF
  rw [if_neg he] at h
  clear he
  by_cases he : op = 12
  · rw [if_pos he] at h
    subst he
    split at h
    case isFalse => cases h
    obtain ⟨rfl, rfl⟩ := Prod.mk.inj (Option.some.inj h)
    refine (do_12 b s vO vU a bb cc n (by omega) (by omega) w hst _ _ _ _).mono ?_
    rintro e' w' ⟨rfl, q1, q2⟩
    exact ⟨rfl, own_of hb hlt hR q1 q2 rfl rfl⟩
  rw [if_neg he] at h
  clear he
  by_cases he : op = 13
  · rw [if_pos he] at h
    subst he
    split at h
    case isFalse => cases h
    obtain ⟨rfl, rfl⟩ := Prod.mk.inj (Option.some.inj h)
    refine (do_13 b s vO vU a bb cc n (by omega) (by omega) w hst _ _ _ _).mono ?_
    rintro e' w' ⟨rfl, q1, q2⟩
    exact ⟨rfl, own_of hb hlt hR q1 q2 rfl rfl⟩
  rw [if_neg he] at h
  clear he
  by_cases he : op = 14
  · rw [if_pos he] at h
    subst he
    split at h
    case isFalse => cases h
    obtain ⟨rfl, rfl⟩ := Prod.mk.inj (Option.some.inj h)
    exact do_14 W0.heap.size b s vO vU a bb cc n (by omega) (by omega) hb w hst hR _ _ _ _
  rw [if_neg he] at h
  clear he
  by_cases he : op = 15
  · rw [if_pos he] at h
    subst he
    split at h
    case isFalse => cases h
    obtain ⟨rfl, rfl⟩ := Prod.mk.inj (Option.some.inj h)
    by_cases hz : s.p bb = s.p cc
    · rw [if_pos hz]
      refine (do_15_yes b s vO vU a bb cc n (by omega) (by omega) (by omega) hz w hst _ _ _ _).mono ?_
      rintro e' w' ⟨rfl, q1, q2⟩
      rw [upd_twice] at q1
      exact ⟨rfl, own_of hb hlt hR q1 q2 rfl rfl⟩
    · rw [if_neg hz]
      refine (do_15_no b s vO vU a bb cc n (by omega) (by omega) (by omega) hz w hst _ _ _ _).mono ?_
      rintro e' w' ⟨rfl, q1, q2⟩
      exact ⟨rfl, own_of hb hlt hR q1 q2 rfl rfl⟩
  rw [if_neg he] at h
  cases h
theorem do_all (hB : Below W0.heap.size W0 w) (hr0 : Kd.C Kd.string W0 A0 l0.length l0) (hc0 : l0.length ≤ c0) (hr3 : Kd.C k55 W0 A3 l3.length l3) (hc3 : l3.length ≤ c3) (hM : OwnM W0.heap.size b s w) (i : S55) (h : doF (szF k l0 a1 a2 l3) s i = some (s', e)) :
    Calls Tryd.prog 22 #[.pointer (some ⟨b, 0, none⟩), .agg #[.slice A0 l0.length c0, .string a1, .string a2, .slice A3 l3.length c3], .agg #[.int .u8 i.f0, .int .u8 i.f1, .int .u8 i.f2, .int .u8 i.f3, .int .i64 i.f4]] w fun e' w' => e' = .returned (.int .i64 e) ∧ OwnM W0.heap.size b s' w' ∧ Below W0.heap.size w w' := by
  unfold doF at h
  split at h
  case isFalse => cases h
  rename_i hg
  obtain ⟨g1, g2, g3, g4, g5⟩ := hg
  have := do_x hB hr0 hc0 hr3 hc3 hM i.f0 i.f1.toNat i.f2.toNat i.f3.toNat i.f4 g4 g5 h
  rwa [Int.toNat_of_nonneg g1, Int.toNat_of_nonneg g2, Int.toNat_of_nonneg g3] at this
end
end Go.Proofs.YtlemecdddhdagaaDoor.P
