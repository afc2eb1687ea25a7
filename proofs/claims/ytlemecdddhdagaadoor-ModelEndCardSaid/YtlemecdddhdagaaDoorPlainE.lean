/-
  PLAIN LEAN: a step answers, and what it leaves.
-/
import Derived.Test.YtlemecdddhdagaaDoorPlainD
namespace Go.Proofs.YtlemecdddhdagaaDoor.P
open Go.RowKit Go.Proofs.YtlemecdddhdagaaDoorW.PrintWords Go.Proofs.YtlemecdddhdagaaDoorW.PrintLast Go.Proofs.YtlemecdddhdagaaDoorW.PrintMore

def sz0 (t : List ByteArray) (lo : ByteArray) (a : Int) : Option Int := if 0 ≤ a ∧ a ≤ 255 then some (sizeF t (namedF t lo a)) else none
section
variable (sz : Int → Option Int) (s : St) (a b c : Nat) (n : Int)
theorem doX_1 : doX sz s 1 a b c n = if a < 8 then some ({ bump s with x := upd s.x a n }, 0) else none := by unfold doX; rfl
theorem doX_2 : doX sz s 2 a b c n = if a < 8 ∧ b < 8 ∧ c < 8 then some ({ bump s with x := upd s.x a (wrap64 (s.x b + s.x c)) }, 0) else none := by unfold doX; rfl
theorem doX_3 : doX sz s 3 a b c n = some ({ bump s with pc := n }, 0) := by unfold doX; rfl
theorem doX_4 : doX sz s 4 a b c n = if a < 8 then if s.x a = 0 then some ({ bump s with pc := n }, 0) else some (bump s, 0) else none := by unfold doX; rfl
theorem doX_5 : doX sz s 5 a b c n = if a < 8 then (sz a).bind fun z => if 0 ≤ z ∧ z ≤ 1000000 then some ({ bump s with objs := s.objs ++ [List.replicate z.toNat 0], p := upd s.p a ((s.objs.length : Int) + 1) }, 0) else none else none := by unfold doX; rfl
theorem doX_6 : doX sz s 6 a b c n = if a < 8 then some ({ bump s with p := upd s.p a 0 }, 0) else none := by unfold doX; rfl
theorem doX_7 : doX sz s 7 a b c n = if a < 8 ∧ b < 8 then some ({ bump s with p := upd s.p a (s.p b) }, 0) else none := by unfold doX; rfl
theorem doX_8 : doX sz s 8 a b c n = if a < 8 ∧ b < 8 then if s.p b = 0 then some (bump s, 9) else if Fld s (s.p b) n then some ({ bump s with x := upd s.x a (rd (rowOf s (s.p b)) n) }, 0) else none else none := by unfold doX; rfl
theorem doX_9 : doX sz s 9 a b c n = if a < 8 ∧ b < 8 then if s.p a = 0 then some (bump s, 9) else if Fld s (s.p a) n then some ({ bump s with objs := s.objs.set (s.p a - 1).toNat ((rowOf s (s.p a)).set n.toNat (s.x b)) }, 0) else none else none := by unfold doX; rfl
theorem doX_10 : doX sz s 10 a b c n = if a < 8 ∧ b < 8 then if s.p b = 0 then some (bump s, 9) else if Fld s (s.p b) n then some ({ bump s with p := upd s.p a (rd (rowOf s (s.p b)) n) }, 0) else none else none := by unfold doX; rfl
theorem doX_11 : doX sz s 11 a b c n = if a < 8 ∧ b < 8 then if s.p a = 0 then some (bump s, 9) else if Fld s (s.p a) n then some ({ bump s with objs := s.objs.set (s.p a - 1).toNat ((rowOf s (s.p a)).set n.toNat (s.p b)) }, 0) else none else none := by unfold doX; rfl
theorem doX_12 : doX sz s 12 a b c n = if a < 8 ∧ b < 4 then some ({ bump s with p := upd s.p a (s.g b) }, 0) else none := by unfold doX; rfl
theorem doX_13 : doX sz s 13 a b c n = if a < 4 ∧ b < 8 then some ({ bump s with g := upd s.g a (s.p b) }, 0) else none := by unfold doX; rfl
theorem doX_14 : doX sz s 14 a b c n = if a < 8 then some ({ bump s with out := s.out ++ [s.x a] }, 0) else none := by unfold doX; rfl
theorem doX_15 : doX sz s 15 a b c n = if a < 8 ∧ b < 8 ∧ c < 8 then some ({ bump s with x := upd s.x a (if s.p b = s.p c then 1 else 0) }, 0) else none := by unfold doX; rfl
end

/-- What a step leaves. -/
structure Next (t : List ByteArray) (lo gl : ByteArray) (len n : Nat) (x : S55) (s s' : St) (e : Int) : Prop where
  code : e = 0 ∨ e = 9
  bad : e ≠ 0 → s' = bump s
  inv : ∃ ty', Inv t lo gl (n + 1) s' ty'
  pc : e = 0 → 0 ≤ s'.pc ∧ s'.pc ≤ len
  steps : s'.steps = wrap64 (s.steps + 1)
  out : s'.out = s.out ++ (if x.f0 = 14 then [s.x x.f1.toNat] else [])
  objs : s'.objs.length = s.objs.length + (if x.f0 = 5 then 1 else 0)

theorem named_lt {t : List ByteArray} {lo : ByteArray} (hl : lo.size ≤ 8) {a : Int} (h : 0 ≤ namedF t lo a) : a < 8 ∧ a < lo.size := by
  unfold namedF at h
  split at h
  · omega
  · omega
theorem doF_of {sz : Int → Option Int} {s : St} {i : S55} (h1 : 0 ≤ i.f1) (h2 : 0 ≤ i.f2) (h3 : 0 ≤ i.f3) (h4 : s.objs.length ≤ 1000000) (h5 : s.out.length ≤ 1000000) : doF sz s i = doX sz s i.f0 i.f1.toNat i.f2.toNat i.f3.toNat i.f4 := if_pos ⟨h1, h2, h3, h4, h5⟩

theorem step_ok {t : List ByteArray} {lo gl : ByteArray} {len n : Nat} {s : St} {ty : List Int} {x : S55} (hr : rightB t = true) (hlo : lo.size ≤ 8) (hgl : gl.size ≤ 4) (hx : Fine t lo gl len x)
    (w1 : 0 ≤ x.f1 ∧ x.f1 ≤ 255) (w2 : 0 ≤ x.f2 ∧ x.f2 ≤ 255) (w3 : 0 ≤ x.f3 ∧ x.f3 ≤ 255) (hI : Inv t lo gl n s ty) (hn : n ≤ 1000000) (hlen : len ≤ 200) (h0 : 0 ≤ s.pc) (h1 : s.pc < len) :
    ∃ s' e, doF (sz0 t lo) s x = some (s', e) ∧ Next t lo gl len n x s s' e := by
  have hpc : wrap64 (s.pc + 1) = s.pc + 1 := by unfold wrap64; omega
  have hb : (bump s).pc = s.pc + 1 := hpc
  have hfew := hI.few
  rw [doF_of w1.1 w2.1 w3.1 (by omega) (by omega)]
  obtain ⟨op, fa, fb, fc, n4⟩ := x
  obtain ⟨a, rfl⟩ := Int.eq_ofNat_of_zero_le w1.1
  obtain ⟨b, rfl⟩ := Int.eq_ofNat_of_zero_le w2.1
  obtain ⟨c, rfl⟩ := Int.eq_ofNat_of_zero_le w3.1
  simp only at w1 w2 w3 ⊢
  simp only [Int.toNat_natCast]
  have hop := hx.op
  simp only at hop
  have hsz : ∀ τ : Int, 0 ≤ sizeF t τ ∧ sizeF t τ ≤ 6 := fun τ => by
    by_cases hτ : 0 ≤ τ
    · obtain ⟨m, rfl⟩ := Int.eq_ofNat_of_zero_le hτ
      have := sizeF_le hr m
      unfold sizeF at this ⊢
      omega
    · unfold sizeF ofF
      rw [if_neg (by simp only [decide_eq_false hτ, Bool.false_and, Bool.and_false]; decide)]
      exact ⟨by decide, by decide⟩
  have loc : ∀ a : Nat, 0 ≤ namedF t lo a → a < 8 := fun a h => by have := (named_lt hlo h).1; omega
  have glb : ∀ a : Nat, 0 ≤ namedF t gl a → a < 4 := fun a h => by
    have : ((a : Nat) : Int) < gl.size := by
      unfold namedF at h
      split at h
      · assumption
      · omega
    omega
  -- a pointer that is something
  have obj : ∀ (b : Nat), 0 ≤ namedF t lo b → s.p b ≠ 0 → 1 ≤ s.p b ∧ s.p b ≤ s.objs.length ∧ ((s.p b - 1).toNat < ty.length) ∧ ty.getD (s.p b - 1).toNat (-1) = namedF t lo b ∧ ((rowOf s (s.p b)).length : Int) = sizeF t (namedF t lo b) := fun b hb hne => by
    rcases hI.p b hb with h | ⟨q1, q2, q3⟩
    · exact absurd h hne
    · have hl := hI.len
      have hlt : (s.p b - 1).toNat < ty.length := by omega
      have := hI.size _ hlt
      rw [q3] at this
      exact ⟨q1, by omega, hlt, q3, this⟩
  obtain h | h | h | h | h | h | h | h | h | h | h | h | h | h | h : op = 1 ∨ op = 2 ∨ op = 3 ∨ op = 4 ∨ op = 5 ∨ op = 6 ∨ op = 7 ∨ op = 8 ∨ op = 9 ∨ op = 10 ∨ op = 11 ∨ op = 12 ∨ op = 13 ∨ op = 14 ∨ op = 15 := by omega
  all_goals subst h
  · have q := hx.one (.inl rfl)
    simp only at q
    rw [doX_1, if_pos (by omega)]
    exact ⟨_, _, rfl, .inl rfl, fun h => absurd rfl h, ⟨ty, hI.as rfl rfl rfl (by show s.out.length ≤ _; omega)⟩, fun _ => by show 0 ≤ (bump s).pc ∧ (bump s).pc ≤ _; omega, rfl, (List.append_nil _).symm, rfl⟩
  · have q := hx.add rfl
    simp only at q
    rw [doX_2, if_pos (by omega)]
    exact ⟨_, _, rfl, .inl rfl, fun h => absurd rfl h, ⟨ty, hI.as rfl rfl rfl (by show s.out.length ≤ _; omega)⟩, fun _ => by show 0 ≤ (bump s).pc ∧ (bump s).pc ≤ _; omega, rfl, (List.append_nil _).symm, rfl⟩
  · have q := hx.jump (.inl rfl)
    rw [doX_3]
    exact ⟨_, _, rfl, .inl rfl, fun h => absurd rfl h, ⟨ty, hI.as rfl rfl rfl (by show s.out.length ≤ _; omega)⟩, fun _ => q, rfl, (List.append_nil _).symm, rfl⟩
  · have q := hx.jump (.inr rfl)
    have q1 := hx.one (.inr (.inl rfl))
    simp only at q1
    rw [doX_4, if_pos (by omega)]
    split
    · exact ⟨_, _, rfl, .inl rfl, fun h => absurd rfl h, ⟨ty, hI.as rfl rfl rfl (by show s.out.length ≤ _; omega)⟩, fun _ => q, rfl, (List.append_nil _).symm, rfl⟩
    · exact ⟨_, _, rfl, .inl rfl, fun h => absurd rfl h, ⟨ty, hI.as rfl rfl rfl (by show s.out.length ≤ _; omega)⟩, fun _ => by omega, rfl, (List.append_nil _).symm, rfl⟩
  · have q := hx.new (.inl rfl)
    simp only at q
    have hs := hsz (namedF t lo a)
    rw [doX_5, if_pos (loc a q), sz0, if_pos ⟨w1.1, w1.2⟩, Option.bind_some, if_pos (by omega)]
    exact ⟨_, _, rfl, .inl rfl, fun h => absurd rfl h, ⟨_, hI.new a _ rfl rfl hs.1 rfl rfl rfl⟩, fun _ => by show 0 ≤ (bump s).pc ∧ (bump s).pc ≤ _; omega, rfl, (List.append_nil _).symm, List.length_append⟩
  · have q := hx.new (.inr rfl)
    simp only at q
    rw [doX_6, if_pos (loc a q)]
    exact ⟨_, _, rfl, .inl rfl, fun h => absurd rfl h, ⟨ty, hI.setP a 0 rfl rfl rfl rfl (.inl rfl)⟩, fun _ => by show 0 ≤ (bump s).pc ∧ (bump s).pc ≤ _; omega, rfl, (List.append_nil _).symm, rfl⟩
  · obtain ⟨q, q2⟩ := hx.move rfl
    simp only at q q2
    rw [doX_7, if_pos ⟨loc a q, loc b (q2 ▸ q)⟩]
    exact ⟨_, _, rfl, .inl rfl, fun h => absurd rfl h, ⟨ty, hI.setP a _ rfl rfl rfl rfl (q2 ▸ hI.p b (q2 ▸ q))⟩, fun _ => by show 0 ≤ (bump s).pc ∧ (bump s).pc ≤ _; omega, rfl, (List.append_nil _).symm, rfl⟩
  · obtain ⟨q1, q2, q3, q4⟩ := hx.loadI rfl
    simp only at q1 q2 q3 q4
    rw [doX_8, if_pos ⟨by omega, loc b q2⟩]
    by_cases hz : s.p b = 0
    · rw [if_pos hz]
      exact ⟨_, _, rfl, .inr rfl, fun _ => rfl, ⟨ty, hI.as rfl rfl rfl (by show s.out.length ≤ _; omega)⟩, fun h => absurd h (by decide), rfl, (List.append_nil _).symm, rfl⟩
    · obtain ⟨y1, y2, y3, y4, y5⟩ := obj b q2 hz
      rw [if_neg hz, if_pos ⟨y1, y2, q3, by omega⟩]
      exact ⟨_, _, rfl, .inl rfl, fun h => absurd rfl h, ⟨ty, hI.as rfl rfl rfl (by show s.out.length ≤ _; omega)⟩, fun _ => by show 0 ≤ (bump s).pc ∧ (bump s).pc ≤ _; omega, rfl, (List.append_nil _).symm, rfl⟩
  · obtain ⟨q1, q2, q3, q4, q5⟩ := hx.storeI rfl
    simp only at q1 q2 q3 q4 q5
    obtain ⟨m, rfl⟩ := Int.eq_ofNat_of_zero_le q3
    rw [doX_9, if_pos ⟨loc a q2, by omega⟩]
    by_cases hz : s.p a = 0
    · rw [if_pos hz]
      exact ⟨_, _, rfl, .inr rfl, fun _ => rfl, ⟨ty, hI.as rfl rfl rfl (by show s.out.length ≤ _; omega)⟩, fun h => absurd h (by decide), rfl, (List.append_nil _).symm, rfl⟩
    · obtain ⟨y1, y2, y3, y4, y5⟩ := obj a q2 hz
      rw [if_neg hz, if_pos ⟨y1, y2, q3, by omega⟩]
      exact ⟨_, _, rfl, .inl rfl, fun h => absurd rfl h, ⟨ty, hI.setO (s.p a - 1).toNat m _ y3 (by rw [y4]; exact q4) rfl rfl rfl rfl (fun h => by rw [y4] at h; omega)⟩, fun _ => by show 0 ≤ (bump s).pc ∧ (bump s).pc ≤ _; omega, rfl, (List.append_nil _).symm, List.length_set⟩
  · obtain ⟨q1, q2, q3, q4, q5⟩ := hx.loadP rfl
    simp only at q1 q2 q3 q4 q5
    obtain ⟨m, rfl⟩ := Int.eq_ofNat_of_zero_le q3
    rw [doX_10, if_pos ⟨loc a q1, loc b q2⟩]
    by_cases hz : s.p b = 0
    · rw [if_pos hz]
      exact ⟨_, _, rfl, .inr rfl, fun _ => rfl, ⟨ty, hI.as rfl rfl rfl (by show s.out.length ≤ _; omega)⟩, fun h => absurd h (by decide), rfl, (List.append_nil _).symm, rfl⟩
    · obtain ⟨y1, y2, y3, y4, y5⟩ := obj b q2 hz
      rw [if_neg hz, if_pos ⟨y1, y2, q3, by omega⟩]
      have hv := hI.obj (s.p b - 1).toNat m y3 (by rw [y4]; omega)
      rw [y4, ← q5] at hv
      exact ⟨_, _, rfl, .inl rfl, fun h => absurd rfl h, ⟨ty, hI.setP a _ rfl rfl rfl rfl hv⟩, fun _ => by show 0 ≤ (bump s).pc ∧ (bump s).pc ≤ _; omega, rfl, (List.append_nil _).symm, rfl⟩
  · obtain ⟨q1, q2, q3, q4, q5⟩ := hx.storeP rfl
    simp only at q1 q2 q3 q4 q5
    obtain ⟨m, rfl⟩ := Int.eq_ofNat_of_zero_le q3
    rw [doX_11, if_pos ⟨loc a q2, loc b q1⟩]
    by_cases hz : s.p a = 0
    · rw [if_pos hz]
      exact ⟨_, _, rfl, .inr rfl, fun _ => rfl, ⟨ty, hI.as rfl rfl rfl (by show s.out.length ≤ _; omega)⟩, fun h => absurd h (by decide), rfl, (List.append_nil _).symm, rfl⟩
    · obtain ⟨y1, y2, y3, y4, y5⟩ := obj a q2 hz
      rw [if_neg hz, if_pos ⟨y1, y2, q3, by omega⟩]
      exact ⟨_, _, rfl, .inl rfl, fun h => absurd rfl h, ⟨ty, hI.setO (s.p a - 1).toNat m _ y3 (by rw [y4]; exact q4) rfl rfl rfl rfl (fun _ => by rw [y4, ← q5]; exact hI.p b q1)⟩, fun _ => by show 0 ≤ (bump s).pc ∧ (bump s).pc ≤ _; omega, rfl, (List.append_nil _).symm, List.length_set⟩
  · obtain ⟨q1, q2⟩ := hx.loadG rfl
    simp only at q1 q2
    rw [doX_12, if_pos ⟨loc a q1, glb b (q2 ▸ q1)⟩]
    exact ⟨_, _, rfl, .inl rfl, fun h => absurd rfl h, ⟨ty, hI.setP a _ rfl rfl rfl rfl (q2 ▸ hI.g b (q2 ▸ q1))⟩, fun _ => by show 0 ≤ (bump s).pc ∧ (bump s).pc ≤ _; omega, rfl, (List.append_nil _).symm, rfl⟩
  · obtain ⟨q1, q2⟩ := hx.storeG rfl
    simp only at q1 q2
    rw [doX_13, if_pos ⟨glb a (q2 ▸ q1), loc b q1⟩]
    exact ⟨_, _, rfl, .inl rfl, fun h => absurd rfl h, ⟨ty, hI.setG a _ rfl rfl rfl rfl (q2 ▸ hI.p b q1)⟩, fun _ => by show 0 ≤ (bump s).pc ∧ (bump s).pc ≤ _; omega, rfl, (List.append_nil _).symm, rfl⟩
  · have q := hx.one (.inr (.inr rfl))
    simp only at q
    rw [doX_14, if_pos (by omega)]
    exact ⟨_, _, rfl, .inl rfl, fun h => absurd rfl h, ⟨ty, hI.as rfl rfl rfl (by show (s.out ++ [s.x a]).length ≤ _; simp; omega)⟩, fun _ => by show 0 ≤ (bump s).pc ∧ (bump s).pc ≤ _; omega, rfl, rfl, rfl⟩
  · obtain ⟨q1, q2, q3⟩ := hx.same rfl
    simp only at q1 q2 q3
    rw [doX_15, if_pos ⟨by omega, loc b q2, loc c (q3 ▸ q2)⟩]
    exact ⟨_, _, rfl, .inl rfl, fun h => absurd rfl h, ⟨ty, hI.as rfl rfl rfl (by show s.out.length ≤ _; omega)⟩, fun _ => by show 0 ≤ (bump s).pc ∧ (bump s).pc ≤ _; omega, rfl, (List.append_nil _).symm, rfl⟩
end Go.Proofs.YtlemecdddhdagaaDoor.P
