/-
  PLAIN LEAN: the law FullStraight.
-/
import Derived.Test.YtbmhmlgfpijmhaaDoorPlainC
import Derived.Test.YtbmhmlgfpijmhaaDoorPx13
namespace Go.Proofs.YtbmhmlgfpijmhaaDoor.P
open Go.RowKit Go.Proofs.YtbmhmlgfpijmhaaDoorW.PrintWords Go.Proofs.YtbmhmlgfpijmhaaDoorW.PrintLast Go.Proofs.YtbmhmlgfpijmhaaDoorW.PrintMore

/-! ### The document's kinds are kind's -/
theorem digit3_bt (s : ByteArray) (i n : Int) : lockstitchref03_digit.f (bt s i) n = some (digF (bt s i) n) := by
  have h := bt_range s i
  unfold lockstitchref03_digit.f digF
  by_cases h1 : bt s i < 48
  · rw [if_pos h1, if_neg (by omega)]
  · rw [if_neg h1, show (bt s i - 48) % 256 = bt s i - 48 from by omega]
    by_cases h2 : bt s i - 48 < n
    · rw [if_neg (show ¬ bt s i - 48 ≥ n from by omega), if_pos (show 48 ≤ bt s i from by omega), if_pos h2]
    · rw [if_pos (show bt s i - 48 ≥ n from by omega), if_pos (show 48 ≤ bt s i from by omega), if_neg h2]
theorem right3_f (t : List ByteArray) (ht : t.length ≤ 9223372036854775807) (hs : ∀ i : Int, (rdOf ByteArray.empty t i).size ≤ 9223372036854775807) : Ev (fun k => lockstitchref03_Right.f k t) (rightB t) := by
  have l1 : ∀ (i : Nat) (s : ByteArray) (r : Bool), s.size ≤ 9223372036854775807 → Ev (fun k => lockstitchref03_Right.l0 k t (wrap64 ((i : Int) + 1))) r →
      Ev (fun k => lockstitchref03_Right.l1 k t (i : Nat) s 0) (okB s t.length && (if (s.size : Int) < 1 then false else if (s.size : Int) > 6 then false else r)) := by
    intro i s r hsz hr
    have := loop_first (g := fun k j => lockstitchref03_Right.l1 k t (i : Nat) s (j : Nat)) (fun j => if (bt s j == 105 || decide (0 ≤ digF (bt s j) t.length)) then none else some false) s.size (if (s.size : Int) < 1 then false else if (s.size : Int) > 6 then false else r)
      (fun j hj hb q hq => ?_) (fun j hj b hb => ?_) (fun _ => ?_) s.size 0 (by omega) (fun j hj => by omega)
    · rw [scan_all s.size (fun j => bt s j == 105 || decide (0 ≤ digF (bt s j) t.length))] at this
      exact this
    · refine Ev.step (fun k => ?_) hq
      simp only [lockstitchref03_Right.l1]
      rw [if_pos (by omega), if_pos (by omega), wrapN (i := j) (n := s.size) hj hsz]
      by_cases h : bt s j = 105
      · rw [if_pos h]
      · rw [if_neg h, digit3_bt]
        simp only [Option.bind_some]
        have h2 : 0 ≤ digF (bt s j) t.length := by
          have := hb
          simp [h] at this
          exact this
        rw [if_neg (by omega)]
    · have hb' : ¬ bt s j = 105 ∧ ¬ 0 ≤ digF (bt s j) t.length ∧ b = false := by
        by_cases h : bt s j = 105
        · simp [h] at hb
        · by_cases h2 : 0 ≤ digF (bt s j) t.length
          · simp [h2] at hb
          · simp [h, h2] at hb
            exact ⟨h, h2, hb⟩
      obtain ⟨h1, h2, rfl⟩ := hb'
      refine Ev.step (f := fun _ => some false) (fun k => ?_) (Ev.now false)
      simp only [lockstitchref03_Right.l1]
      rw [if_pos (by omega), if_pos (by omega), if_neg h1, digit3_bt]
      simp only [Option.bind_some]
      rw [if_pos (by omega)]
    · refine Ev.step (fun k => by simp only [lockstitchref03_Right.l1]; rfl) ?_
      refine Ev.congr (fun k => if_neg (by omega)) ?_
      exact Ev.ite (fun _ => Ev.now _) fun _ => Ev.ite (fun _ => Ev.now _) fun _ => hr
  have := loop_first (g := fun k i => lockstitchref03_Right.l0 k t (i : Nat)) (fun i => if oneB (rdOf ByteArray.empty t i) t.length then none else some false) t.length (decide (1 ≤ t.length) && decide (t.length ≤ 8))
    (fun i hi hb q hq => ?_) (fun i hi b hb => ?_) (fun _ => ?_) t.length 0 (by omega) (fun j hj => by omega)
  · rw [scan_all t.length (fun i => oneB (rdOf ByteArray.empty t i) t.length)] at this
    exact this
  · have ho : oneB (rdOf ByteArray.empty t i) t.length = true := by
      cases h : oneB (rdOf ByteArray.empty t i) t.length <;> simp [h] at hb ⊢
    unfold oneB at ho
    simp only [Bool.and_eq_true, decide_eq_true_eq] at ho
    obtain ⟨⟨h1, h2⟩, h3⟩ := ho
    refine Ev.step (f := fun k => lockstitchref03_Right.l1 k t (i : Nat) (rdOf ByteArray.empty t i) 0) (fun k => ?_) ?_
    · simp only [lockstitchref03_Right.l0]
      rw [if_pos (by omega), if_pos (by omega)]
    · have := l1 i (rdOf ByteArray.empty t i) q (hs _) (by rw [wrapN hi ht]; exact hq)
      rw [h3, Bool.true_and, if_neg (by omega), if_neg (by omega)] at this
      exact this
  · have ho : oneB (rdOf ByteArray.empty t i) t.length = false ∧ b = false := by
      cases h : oneB (rdOf ByteArray.empty t i) t.length <;> simp [h] at hb
      exact ⟨rfl, hb⟩
    obtain ⟨ho, rfl⟩ := ho
    refine Ev.step (f := fun k => lockstitchref03_Right.l1 k t (i : Nat) (rdOf ByteArray.empty t i) 0) (fun k => ?_) ?_
    · simp only [lockstitchref03_Right.l0]
      rw [if_pos (by omega), if_pos (by omega)]
    · -- whatever stands behind, it is false
      have tot := right3_tot t ht hs
      have nx : ∃ r, Ev (fun k => lockstitchref03_Right.l0 k t (wrap64 ((i : Int) + 1))) r := by
        rw [wrapN hi ht]
        have l0 : ∀ d j, j + d = t.length → ∃ r, Ev (fun k => lockstitchref03_Right.l0 k t (j : Nat)) r := by
          intro d
          induction d with
          | zero =>
            intro j hj
            refine ⟨(decide (1 ≤ t.length) && decide (t.length ≤ 8)), Ev.step (f := fun _ => some _) (fun k => ?_) (Ev.now _)⟩
            simp only [lockstitchref03_Right.l0]
            rw [if_neg (by omega)]
            by_cases h : 1 ≤ t.length
            · rw [if_pos (by omega), decide_eq_true h, Bool.true_and]
              congr 1
              exact decide_eq_decide.2 (by omega)
            · rw [if_neg (by omega), decide_eq_false h, Bool.false_and]
          | succ d ih =>
            intro j hj
            obtain ⟨r, hr⟩ := ih (j + 1) (by omega)
            have := l1 j (rdOf ByteArray.empty t j) r (hs _) (by rw [wrapN (i := j) (n := t.length) (by omega) ht]; exact hr)
            refine ⟨_, Ev.step (fun k => ?_) this⟩
            simp only [lockstitchref03_Right.l0]
            rw [if_pos (by omega), if_pos (by omega)]
        exact l0 (t.length - (i + 1)) (i + 1) (by omega)
      obtain ⟨r, hr⟩ := nx
      have := l1 i (rdOf ByteArray.empty t i) r (hs _) hr
      refine Ev.out this ?_
      unfold oneB at ho
      by_cases h1 : ((rdOf ByteArray.empty t i).size : Int) < 1
      · rw [if_pos h1, Bool.and_false]
      · by_cases h2 : ((rdOf ByteArray.empty t i).size : Int) > 6
        · rw [if_neg h1, if_pos h2, Bool.and_false]
        · rw [decide_eq_true (by omega), decide_eq_true (by omega)] at ho
          simp at ho
          rw [ho, Bool.false_and]
  · refine Ev.step (f := fun _ => some (decide (1 ≤ t.length) && decide (t.length ≤ 8))) (fun k => ?_) (Ev.now _)
    simp only [lockstitchref03_Right.l0]
    rw [if_neg (by omega)]
    by_cases h : 1 ≤ t.length
    · rw [if_pos (by omega), decide_eq_true h, Bool.true_and]
      congr 1
      exact decide_eq_decide.2 (by omega)
    · rw [if_neg (by omega), decide_eq_false h, Bool.false_and]
theorem refs3_f (t : List ByteArray) (s : ByteArray) (ht : t.length ≤ 9223372036854775807) (hts : ∀ i : Int, (rdOf ByteArray.empty t i).size ≤ 9223372036854775807) (hs : s.size ≤ 9223372036854775807) : Ev (fun k => lockstitchref03_Refs.f k t s) (refsB t s) := by
  have := loop_first (g := fun k i => lockstitchref03_Refs.l0 k t s (i : Nat)) (fun i => if decide (0 ≤ digF (bt s i) t.length) then none else some false) s.size (rightB t)
    (fun i hi hb q hq => ?_) (fun i hi b hb => ?_) (fun _ => ?_) s.size 0 (by omega) (fun j hj => by omega)
  · rw [scan_all s.size (fun i => decide (0 ≤ digF (bt s i) t.length))] at this
    exact this
  · have h2 : 0 ≤ digF (bt s i) t.length := by
      by_cases h : 0 ≤ digF (bt s i) t.length
      · exact h
      · simp [h] at hb
    refine Ev.step (fun k => ?_) hq
    simp only [lockstitchref03_Refs.l0]
    rw [if_pos (by omega), if_pos (by omega), wrapN hi hs, digit3_bt]
    simp only [Option.bind_some]
    rw [if_neg (by omega)]
  · have h2 : ¬ 0 ≤ digF (bt s i) t.length ∧ b = false := by
      by_cases h : 0 ≤ digF (bt s i) t.length
      · simp [h] at hb
      · simp [h] at hb
        exact ⟨h, hb⟩
    obtain ⟨h2, rfl⟩ := h2
    refine Ev.step (f := fun _ => some false) (fun k => ?_) (Ev.now false)
    simp only [lockstitchref03_Refs.l0]
    rw [if_pos (by omega), if_pos (by omega), digit3_bt]
    simp only [Option.bind_some]
    rw [if_pos (by omega)]
  · refine Ev.step (f := fun k => (lockstitchref03_Right.f k t).bind fun z => some z) (fun k => ?_) (Ev.bind (right3_f t ht hts) (Ev.now _))
    simp only [lockstitchref03_Refs.l0]
    rw [if_neg (by omega)]
section
variable (t : List ByteArray) (ht : t.length ≤ 9223372036854775807) (hs : ∀ i : Int, (rdOf ByteArray.empty t i).size ≤ 9223372036854775807)
include ht hs
theorem at5_f (s : ByteArray) (a : Int) (h0 : 0 ≤ a) (h1 : a ≤ 255) : Ev (fun k => lockstitchref05_at.f k t s a) (namedF t s a) := by
  have e1 : wrap64 a = a := by unfold wrap64; omega
  have e2 : wrap64 (a + 1) = a + 1 := by unfold wrap64; omega
  by_cases h : a < s.size
  · obtain ⟨n, rfl⟩ := Int.eq_ofNat_of_zero_le h0
    have hn : n < s.size := by omega
    have hr := refs3_f t (s.extract n (n + 1)) ht hs (by rw [size_extract1 s n hn]; omega)
    have er : refsB t (s.extract n (n + 1)) = (decide (0 ≤ digF (bt s (n : Int)) t.length) && rightB t) := by
      unfold refsB
      rw [size_extract1 s n hn]
      congr 1
      show (List.range 1).all _ = _
      simp only [List.range_one, List.all_cons, List.all_nil, Bool.and_true]
      rw [show ((0 : Nat) : Int) = 0 from rfl, bt_extract1 s n hn]
    rw [er] at hr
    refine Ev.congr (f := fun k => (lockstitchref03_Refs.f k t (s.extract n (n + 1))).bind fun z => if z = true then some ((bt s n - 48) % 256) else some (-1)) (fun k => ?_) (Ev.bind hr ?_)
    · unfold lockstitchref05_at.f
      rw [e1, e2, if_neg (by omega), if_pos (by omega), if_pos (by omega), if_pos (by omega)]
      rw [show ((n : Int) + 1).toNat = n + 1 from by omega, Int.toNat_natCast]
      congr 1
      funext z
      by_cases hb : z = true
      · rw [if_pos hb, if_pos hb, if_pos (by omega), if_pos (by omega)]
      · rw [if_neg hb, if_neg hb]
    · unfold namedF
      rw [if_pos h]
      cases hb : (decide (0 ≤ digF (bt s (n : Int)) t.length) && rightB t)
      · rw [if_neg (by decide), if_neg (by decide)]
        exact Ev.now _
      · rw [if_pos rfl, if_pos rfl]
        have := digF_iff.1 (of_decide_eq_true (Bool.and_eq_true _ _ ▸ hb).1)
        have hr := bt_range s n
        rw [show (bt s (n : Int) - 48) % 256 = bt s n - 48 from by omega]
        exact Ev.now _
  · refine Ev.congr (f := fun _ => some (-1)) (fun k => ?_) (by unfold namedF; rw [if_neg h]; exact Ev.now _)
    unfold lockstitchref05_at.f
    rw [e1, if_pos (by omega)]
theorem local5_f (lo gl : ByteArray) (code : List S39) (a : Int) (h0 : 0 ≤ a) (h1 : a ≤ 255) : Ev (fun k => lockstitchref05_Local.f k t lo gl code a) (namedF t lo a) := Ev.bind (at5_f t ht hs lo a h0 h1) (Ev.now _)
theorem size3_f (i : Int) : Ev (fun k => lockstitchref03_Size.f k t i) (sizeF t i) := by
  have is : Ev (fun k => lockstitchref03_is.f k t i) (rightB t && (decide (0 ≤ i) && decide (i < t.length))) := by
    refine Ev.bind (right3_f t ht hs) ?_
    refine Ev.out (Ev.ite (fun _ => Ev.ite (fun _ => Ev.now (decide (i < (t.length : Int)))) fun _ => Ev.now false) fun _ => Ev.now false) ?_
    cases rightB t
    · rfl
    · rw [if_pos rfl, Bool.true_and]
      by_cases h : i ≥ 0
      · rw [if_pos h, decide_eq_true (show 0 ≤ i from h), Bool.true_and]
      · rw [if_neg h, decide_eq_false (show ¬ 0 ≤ i from h), Bool.false_and]
  refine Ev.bind is ?_
  unfold sizeF ofF
  by_cases h : (rightB t && (decide (0 ≤ i) && decide (i < t.length))) = true
  · have h' := h
    simp only [Bool.and_eq_true, decide_eq_true_eq] at h'
    rw [if_pos h, if_pos h]
    exact Ev.congr (fun k => (if_pos h'.2.1).trans (if_pos h'.2.2)) (Ev.now _)
  · rw [if_neg h, if_neg h]
    exact Ev.now _
end

/-! ### How many writes -/
def pc (h : Nat) : Nat := ((List.range 6).filter fun n => h.testBit n).length
theorem pc_or : ∀ h : Fin 64, ∀ n : Fin 6, pc (h.val ||| 2 ^ n.val) ≤ pc h.val + 1 := by decide +kernel
theorem pc_whole : ∀ s : Fin 7, pc (2 ^ s.val - 1) = s.val := by decide +kernel
def PcLe (h w : Nat) : Prop := pc h ≤ w
theorem PcLe.or {h w n : Nat} (hp : PcLe h w) (hh : h < 64) (hn : n < 6) : PcLe (h ||| 2 ^ n) (w + 1) := Nat.le_trans (pc_or ⟨h, hh⟩ ⟨n, hn⟩) (Nat.succ_le_succ hp)
theorem PcLe.whole {s w : Nat} (hs : s ≤ 6) (hp : PcLe (2 ^ s - 1) w) : s ≤ w := by
  have := pc_whole ⟨s, Nat.lt_succ_of_le hs⟩
  unfold PcLe at hp
  dsimp only at this
  rwa [this] at hp
theorem tmod_atS (a : Int) (n : Nat) (h0 : U8 a) (hn : 1 ≤ n) : ∃ q : Nat, Int.tmod (wrap64 a) (n : Int) = (q : Int) ∧ q < n := by
  unfold U8 at h0
  have e : wrap64 a = a := by unfold wrap64; omega
  rw [e]
  refine ⟨a.toNat % n, ?_, Nat.mod_lt _ (by omega)⟩
  obtain ⟨m, rfl⟩ := Int.eq_ofNat_of_zero_le h0.1
  rw [Int.toNat_natCast, Int.ofNat_tmod]
theorem runL_range {a : Int} {whole : Nat} {y : List S39} : ∀ (d i had j : Nat), runL a whole y d i had = some j → i ≤ j ∧ j < i + d
  | 0, _, _, _, h => by cases h
  | d + 1, i, had, j, h => by
    unfold runL at h
    cases hc : cls a (y.getD i z39) with
    | none => rw [hc] at h; cases h
    | some w =>
      rw [hc] at h
      cases w with
      | none =>
        have := runL_range d (i + 1) had j h
        omega
      | some n =>
        dsimp only at h
        by_cases hw : had ||| 2 ^ n = whole
        · rw [if_pos hw] at h
          obtain rfl := Option.some.inj h
          omega
        · rw [if_neg hw] at h
          have := runL_range d (i + 1) _ j h
          omega

theorem nle (n : Nat) : ¬ ((n + 1 : Nat) : Int) ≤ (n : Int) := by omega
theorem le6 {s : Nat} (h : (s : Int) ≤ 6) : s ≤ 6 := by omega
theorem straight_loop (t : List ByteArray) (lo gl : ByteArray) (code : List S39) (q j s : Nat) (a : Int) (ht : t.length ≤ 9223372036854775807) (hts : ∀ i : Int, (rdOf ByteArray.empty t i).size ≤ 9223372036854775807) (hn : code.length ≤ 9223372036854775807)
    (ha : U8 a) (hjl : q + 1 + j < code.length) (hq : (code.getD q z39).f0 = 5) (hsz : sizeF t (namedF t lo a) = (s : Int)) (hs6 : s ≤ 6) :
    ∀ d i had w, runL a (2 ^ s - 1) (code.drop (q + 1)) d i had = some j → had < 64 → PcLe had w → w ≤ i → i ≤ j →
      Ev (fun k => lockstitchlaw10_FullStraight.l0 k (q : Nat) ((q + 1 + j : Nat) : Int) a (w : Nat) ((q + 1 + i : Nat) : Int) t lo gl code) true := by
  -- behind the last write
  have fin : ∀ w : Nat, s ≤ w → Ev (fun k => lockstitchlaw10_FullStraight.l0 k (q : Nat) ((q + 1 + j : Nat) : Int) a (w : Nat) ((q + 1 + j + 1 : Nat) : Int) t lo gl code) true := by
    intro w hw
    refine Ev.step (fun k => by simp only [lockstitchlaw10_FullStraight.l0]; rfl) ?_
    refine Ev.congr (fun k => if_neg (nle (q + 1 + j))) ?_
    refine Ev.bind (local5_f t ht hts lo gl code a ha.1 ha.2) (Ev.bind (size3_f t ht hts _) ?_)
    rw [hsz]
    clear hsz
    refine Ev.congr (fun k => (if_pos (by omega)).trans ((if_pos (by omega)).trans (if_pos (by omega)))) ?_
    rw [rd_at, hq]
    exact Ev.now _
  clear hsz
  intro d
  induction d with
  | zero => intro i had w h; cases h
  | succ d ih =>
    intro i had w h hh hp hwi hij
    have hlt : q + 1 + i < code.length := by omega
    have ew : wrap64 (((q + 1 + i : Nat) : Int) + 1) = ((q + 1 + (i + 1) : Nat) : Int) := wrapN (i := q + 1 + i) (n := code.length) hlt hn
    have ew2 : wrap64 ((w : Int) + 1) = ((w + 1 : Nat) : Int) := wrapN (i := w) (n := code.length) (by omega) hn
    unfold runL at h
    rw [getD_drop] at h
    generalize hx : code.getD (q + 1 + i) z39 = x at h
    -- the parts
    have j3 : ∀ b, Ev (fun k => lockstitchlaw10_FullStraight.l0 k (q : Nat) ((q + 1 + j : Nat) : Int) a (w : Nat) ((q + 1 + (i + 1) : Nat) : Int) t lo gl code) true → b = true → x.f1 ≠ a →
        Ev (fun k => lockstitchlaw10_FullStraight.j3 k (q : Nat) ((q + 1 + j : Nat) : Int) a (w : Nat) ((q + 1 + i : Nat) : Int) b t lo gl code x.f0 x.f1 x.f2 x.f3 x.f4) true := fun b hnx hb h1 => by
      refine Ev.step (fun k => by simp only [lockstitchlaw10_FullStraight.j3]; rfl) ?_
      rw [ew]
      exact Ev.congr (fun k => (if_pos hb).trans (if_neg h1)) hnx
    have j2 : ∀ b, Ev (fun k => lockstitchlaw10_FullStraight.l0 k (q : Nat) ((q + 1 + j : Nat) : Int) a (w : Nat) ((q + 1 + (i + 1) : Nat) : Int) t lo gl code) true → (b = true ∨ ((x.f0 = 6 ∨ x.f0 = 7) ∧ x.f1 ≠ a)) →
        Ev (fun k => lockstitchlaw10_FullStraight.j2 k (q : Nat) ((q + 1 + j : Nat) : Int) a (w : Nat) ((q + 1 + i : Nat) : Int) x.f0 b t lo gl code x.f0 x.f1 x.f2 x.f3 x.f4) true := fun b hnx hb => by
      refine Ev.step (fun k => by simp only [lockstitchlaw10_FullStraight.j2]; rfl) ?_
      rw [ew]
      refine Ev.out (Ev.ite (a := true) (b := true) (fun _ => hnx) fun hb2 => ?_) (by split <;> rfl)
      obtain ⟨h67, h1⟩ := hb.resolve_left hb2
      refine Ev.out (Ev.ite (a := true) (b := true) (fun h6 => j3 _ hnx (by simp [h6]) h1) fun h6 => j3 _ hnx ?_ h1) (by split <;> rfl)
      have : x.f0 = 7 := h67.resolve_left h6
      simp [this]
    have j1s : ∀ b, Ev (fun k => lockstitchlaw10_FullStraight.l0 k (q : Nat) ((q + 1 + j : Nat) : Int) a (w : Nat) ((q + 1 + (i + 1) : Nat) : Int) t lo gl code) true → b = false → ((x.f0 = 1 ∨ x.f0 = 2 ∨ x.f0 = 14 ∨ x.f0 = 15) ∨ ((x.f0 = 6 ∨ x.f0 = 7) ∧ x.f1 ≠ a)) →
        Ev (fun k => lockstitchlaw10_FullStraight.j1 k (q : Nat) ((q + 1 + j : Nat) : Int) a (w : Nat) ((q + 1 + i : Nat) : Int) x.f0 b t lo gl code x.f0 x.f1 x.f2 x.f3 x.f4) true := fun b hnx hb hc => by
      refine Ev.step (fun k => by simp only [lockstitchlaw10_FullStraight.j1]; rfl) ?_
      refine Ev.congr (fun k => if_neg (by simp [hb])) ?_
      refine Ev.out (Ev.ite (a := true) (b := true) (fun h1 => j2 _ hnx (.inl (by simp [h1]))) fun h1 => ?_) (by split <;> rfl)
      refine Ev.out (Ev.ite (a := true) (b := true) (fun h2 => j2 _ hnx (.inl (by simp [h2]))) fun h2 => ?_) (by split <;> rfl)
      refine Ev.out (Ev.ite (a := true) (b := true) (fun h3 => j2 _ hnx (.inl (by simp [h3]))) fun h3 => j2 _ hnx ?_) (by split <;> rfl)
      rcases hc with hc | hc
      · have : x.f0 = 15 := by omega
        exact .inl (by simp [this])
      · exact .inr hc
    have j1w : ∀ b, Ev (fun k => lockstitchlaw10_FullStraight.l0 k (q : Nat) ((q + 1 + j : Nat) : Int) a ((w + 1 : Nat) : Int) ((q + 1 + (i + 1) : Nat) : Int) t lo gl code) true → b = true → x.f1 = a →
        Ev (fun k => lockstitchlaw10_FullStraight.j1 k (q : Nat) ((q + 1 + j : Nat) : Int) a (w : Nat) ((q + 1 + i : Nat) : Int) x.f0 b t lo gl code x.f0 x.f1 x.f2 x.f3 x.f4) true := fun b hnx hb h1 => by
      refine Ev.step (fun k => by simp only [lockstitchlaw10_FullStraight.j1]; rfl) ?_
      rw [ew, ew2]
      exact Ev.congr (fun k => (if_pos hb).trans (if_pos h1)) hnx
    clear ew ew2 hq
    refine Ev.step (f := fun k => if x.f0 = 9 then (lockstitchlaw10_FullStraight.j1 k (q : Nat) ((q + 1 + j : Nat) : Int) a (w : Nat) ((q + 1 + i : Nat) : Int) x.f0 (x.f0 == 9) t lo gl code x.f0 x.f1 x.f2 x.f3 x.f4) else (lockstitchlaw10_FullStraight.j1 k (q : Nat) ((q + 1 + j : Nat) : Int) a (w : Nat) ((q + 1 + i : Nat) : Int) x.f0 (x.f0 == 11) t lo gl code x.f0 x.f1 x.f2 x.f3 x.f4)) (fun k => ?_) ?_
    · simp only [lockstitchlaw10_FullStraight.l0]
      rw [if_pos (by omega), if_pos (by omega), if_pos (by omega), rd_at, hx]
    · cases hc : cls a x with
      | none => rw [hc] at h; cases h
      | some v =>
        rw [hc] at h
        cases v with
        | none =>
          have hr := runL_range d (i + 1) had j h
          have nx := ih (i + 1) had w h hh hp (by omega) (by omega)
          have kinds : (x.f0 = 1 ∨ x.f0 = 2 ∨ x.f0 = 14 ∨ x.f0 = 15) ∨ ((x.f0 = 6 ∨ x.f0 = 7) ∧ x.f1 ≠ a) := by
            unfold cls at hc
            split at hc
            · rename_i h1; exact .inl h1
            · split at hc
              · rename_i h6
                split at hc
                · cases hc
                · rename_i h1; exact .inr ⟨h6, h1⟩
              · split at hc
                · split at hc <;> cases hc
                · cases hc
          refine Ev.congr (fun k => if_neg (by omega)) (j1s _ nx ?_ kinds)
          have : x.f0 ≠ 11 := by omega
          simp [this]
        | some n =>
          obtain ⟨h6, h4, h1, h9⟩ := cls_field hc
          dsimp only at h
          have nx : Ev (fun k => lockstitchlaw10_FullStraight.l0 k (q : Nat) ((q + 1 + j : Nat) : Int) a ((w + 1 : Nat) : Int) ((q + 1 + (i + 1) : Nat) : Int) t lo gl code) true := by
            by_cases hw : had ||| 2 ^ n = 2 ^ s - 1
            · rw [if_pos hw] at h
              obtain rfl := Option.some.inj h
              have pw := hp.or hh h6
              rw [hw] at pw
              exact fin (w + 1) (pw.whole hs6)
            · rw [if_neg hw] at h
              clear hw
              have hr := runL_range d (i + 1) _ j h
              exact ih (i + 1) _ (w + 1) h (or_pow ⟨had, hh⟩ ⟨n, h6⟩).2 (hp.or hh h6) (Nat.succ_le_succ hwi) hr.1
          refine Ev.out (Ev.ite (a := true) (b := true) (fun h => j1w _ nx (by simp [h]) h1) fun hne => j1w _ nx ?_ h1) (by split <;> rfl)
          have : x.f0 = 11 := h9.resolve_left hne
          simp [this]

theorem straight_law (t : List ByteArray) (lo gl : ByteArray) (code : List S39) (a : Int) (ht : t.length ≤ 9223372036854775807) (hs : ∀ i : Int, (rdOf ByteArray.empty t i).size ≤ 9223372036854775807) (hlo : lo.size ≤ Mx) (hgl : gl.size ≤ Mx) (hn : code.length ≤ 9223372036854775807) (hw : Wf code) (ha : U8 a) :
    Ev (fun k => lockstitchlaw10_FullStraight.f k t lo gl code a) true := by
  refine Ev.bind alive_f (Ev.congr (fun k => if_pos rfl) ?_)
  obtain ⟨b, hb, hp⟩ := sound_tot t lo gl code ht hs hn hw hlo hgl
  refine Ev.bind hb ?_
  refine Ev.out (Ev.ite (b := true) (a := true) (fun hb1 => ?_) fun _ => Ev.now _) (by split <;> rfl)
  have hl := hp hb1
  obtain ⟨q, hq, hql⟩ := tmod_atS a code.length ha hl.1
  rw [hq]
  refine Ev.congr (fun k => if_neg (by omega)) (Ev.bind (last_f t lo gl code q hql ht hn hw) ?_)
  by_cases h5 : (code.getD q z39).f0 = 5
  · have el : lastN t lo code q = place q (runL (code.getD q z39).f1 (wholeOf t lo (code.getD q z39).f1) (code.drop (q + 1)) (code.length - (q + 1)) 0 0) := if_pos h5
    rw [el]
    clear el hq
    cases hr : runL (code.getD q z39).f1 (wholeOf t lo (code.getD q z39).f1) (code.drop (q + 1)) (code.length - (q + 1)) 0 0 with
    | none =>
      show Ev (fun k => if (-1 : Int) < 0 then _ else _) true
      exact Ev.congr (fun k => if_pos (by decide)) (Ev.now _)
    | some j =>
      have sr := sizeF_range t (namedF t lo (code.getD q z39).f1)
      obtain ⟨s, hsz⟩ := Int.eq_ofNat_of_zero_le sr.1
      have h6 := sr.2
      rw [hsz] at h6
      have ew : wholeOf t lo (code.getD q z39).f1 = 2 ^ s - 1 := by
        unfold wholeOf
        rw [hsz, Int.toNat_natCast]
      rw [ew] at hr
      have go := fun hj => straight_loop t lo gl code q j s _ ht hs hn (hw q).2.1 hj h5 hsz (le6 h6) _ 0 0 0 hr (by decide) (show pc 0 ≤ 0 by decide) (Nat.le_refl _) (Nat.zero_le _)
      have hj := runL_range _ _ _ _ hr
      clear hsz sr ew hr h5 h6
      have e1 : wrap64 ((q : Int) + 1) = ((q + 1 + 0 : Nat) : Int) := wrapN (i := q) (n := code.length) hql hn
      show Ev (fun k => if ((q + 1 + j : Nat) : Int) < 0 then _ else _) true
      refine Ev.congr (fun k => (if_neg (by omega)).trans ((if_pos (by omega)).trans (if_pos (by omega)))) ?_
      rw [rd_at, e1]
      exact go (by omega)
  · have el : lastN t lo code q = -1 := if_neg h5
    rw [el]
    clear el
    exact Ev.congr (fun k => if_pos (by decide)) (Ev.now _)
end Go.Proofs.YtbmhmlgfpijmhaaDoor.P
