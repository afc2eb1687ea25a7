/-
  LeakNone: its call, whatever it is given.
-/
import Derived.Test.YtgfnpdfhdgenbaaDoorNoneB
import Derived.Test.YtgfnpdfhdgenbaaDoorPlainG
namespace Go.Proofs.YtgfnpdfhdgenbaaDoor.P
open Go.RowKit Go.Proofs.YtgfnpdfhdgenbaaDoorW.PrintWords Go.Proofs.YtgfnpdfhdgenbaaDoorW.PrintLast Go.Proofs.YtgfnpdfhdgenbaaDoorW.PrintMore
set_option linter.unusedVariables false
set_option linter.unusedSimpArgs false
attribute [local go_sem ↓] Go.wp_at_zero Go.wp_at_succ

set_option maxRecDepth 100000 in
set_option maxHeartbeats 1600000 in
theorem none_unsound (K : Nat) (A0_0 : Option Addr) (c0_0 : Nat) (l0_0 : List ByteArray) (a0_1 : ByteArray) (a0_2 : ByteArray) (A0_3 : Option Addr) (c0_3 : Nat) (l0_3 : List (S45)) (a1 : Int) (w : World) (hr0_0 : Kd.C Kd.string w A0_0 l0_0.length l0_0) (hc0_0 : l0_0.length ≤ c0_0) (hr0_3 : Kd.C k45 w A0_3 l0_3.length l0_3) (hc0_3 : l0_3.length ≤ c0_3) (hrT : Kd.C tabK w tabA tabL.length tabL)
    (hal : lockstitchlaw11_alive.f K = some true) (hso : lockstitchlaw07_Sound.f K l0_0 a0_1 a0_2 l0_3 = some false) :
    Calls Tryd.prog 4 #[.agg #[.slice A0_0 l0_0.length c0_0, .string a0_1, .string a0_2, .slice A0_3 l0_3.length c0_3], .int .u8 a1] w fun e w' => e = .returned (.bool true) ∧ Below w.heap.size w w' := by
  have hu25 := Tryd.underlying25
  have hu45 := Tryd.underlying45
  have hnot : ∀ (x : Bool) (w : World), (Op.unary .not (.bool x)).run Tryd.prog w = .ok (.bool (!x)) w := fun _ _ => rfl
  have HR0 := Aside0.mk hr0_0
  have HR3 := Aside0.mk hr0_3
  have HC0 := Aside0.mk hc0_0
  have HC3 := Aside0.mk hc0_3
  have HT := Aside0.mk hrT
  clear hr0_0 hr0_3 hc0_0 hc0_3 hrT
  obtain ⟨G, hG⟩ : ∃ G, w.heap.size = G := ⟨_, rfl⟩
  obtain ⟨wb, hwb⟩ : ∃ wb, w.alloc (.cells #[.slice A0_0 l0_0.length c0_0, .string a0_1, .string a0_2, .slice A0_3 l0_3.length c0_3] 25) = wb := ⟨_, rfl⟩
  have BK : wb.heap[G]? = some (.cells #[.slice A0_0 l0_0.length c0_0, .string a0_1, .string a0_2, .slice A0_3 l0_3.length c0_3] 25 (0, 0)) := by
    rw [← hwb, ← hG]
    exact blk_new w _
  have HB : Below w.heap.size w wb := by
    rw [← hwb]
    exact below_alloc (Below.refl _ _) _
  go_enter Tryd.func4, Tryd.ntmps4
  go_wp2_with fail
  refine (lockstitchlaw11_alive.calls K true _ hal).mono ?_
  rintro e w1 ⟨rfl, hb1⟩
  have BK1 := blk_below BK hb1
  have HB1 := below_step HB hb1
  clear BK HB hb1 hwb
  have z0 : w1.cell? ⟨G, 0, none⟩ = some (.slice A0_0 l0_0.length c0_0) := (blk_cell BK1 0).trans rfl
  have z1 : w1.cell? ⟨G, 1, none⟩ = some (.string a0_1) := (blk_cell BK1 1).trans rfl
  have z2 : w1.cell? ⟨G, 2, none⟩ = some (.string a0_2) := (blk_cell BK1 2).trans rfl
  have z3 : w1.cell? ⟨G, 3, none⟩ = some (.slice A0_3 l0_3.length c0_3) := (blk_cell BK1 3).trans rfl
  go_wp2_with fail
  refine (lockstitchlaw07_Sound.calls K A0_0 c0_0 l0_0 a0_1 a0_2 A0_3 c0_3 l0_3 false w1 (Kd.C_below HR0.out HB1) HC0.out (Kd.C_below HR3.out HB1) HC3.out (Kd.C_below HT.out HB1) hso).mono ?_
  rintro e w2 ⟨rfl, hb2⟩
  have HB2 := below_step HB1 hb2
  go_wp2
  go_ret
  exact ⟨rfl, HB2⟩

theorem none_calls (A0_0 : Option Addr) (c0_0 : Nat) (t : List ByteArray) (lo gl : ByteArray) (A0_3 : Option Addr) (c0_3 : Nat) (code : List S45) (a1 : Int) (w : World) (hr0_0 : Kd.C Kd.string w A0_0 t.length t) (hc0_0 : t.length ≤ c0_0) (hr0_3 : Kd.C k45 w A0_3 code.length code) (hc0_3 : code.length ≤ c0_3) (hrT : Kd.C tabK w tabA tabL.length tabL)
    (ht : t.length ≤ Mx) (hs : ∀ i : Int, (rdOf ByteArray.empty t i).size ≤ Mx) (hlo : lo.size ≤ Mx) (hgl : gl.size ≤ Mx) (hn : code.length ≤ Mx) (hw : Wf code) (ha : U8 a1) :
    Calls Tryd.prog 4 #[.agg #[.slice A0_0 t.length c0_0, .string lo, .string gl, .slice A0_3 code.length c0_3], .int .u8 a1] w fun e w' => e = .returned (.bool true) ∧ Below w.heap.size w w' := by
  obtain ⟨K0, hal⟩ := alive_g
  obtain ⟨b, ⟨K1, hb⟩, hp⟩ := sound_more t lo gl code ht hs hn hw hlo hgl
  cases b
  · exact none_unsound (max K0 K1) A0_0 c0_0 t lo gl A0_3 c0_3 code a1 w hr0_0 hc0_0 hr0_3 hc0_3 hrT (hal _ (Nat.le_max_left _ _)) (hb _ (Nat.le_max_right _ _))
  · obtain ⟨h8, ⟨h1, h60⟩, hg⟩ := hp rfl
    obtain ⟨q, hq, hql⟩ := tmod_atG a1 code.length ha h1
    obtain ⟨f1, f2, f3⟩ := none_facts t lo gl code hn hw h8 h60 hg q hql
    obtain ⟨K2, h2⟩ := ev_all code.length f1
    obtain ⟨K3, h3⟩ : ∃ K, ∀ k, K ≤ k → (code.getD q z45).f0 ≠ 5 → leak_Leaks.f k t lo gl code (q : Nat) = some false := by
      by_cases h5 : (code.getD q z45).f0 = 5
      · exact ⟨0, fun _ _ h => absurd h5 h⟩
      · obtain ⟨K, hK⟩ := f2 h5
        exact ⟨K, fun k hk _ => hK k hk⟩
    obtain ⟨K4, h4⟩ : ∃ K, ∀ k, K ≤ k → (code.getD q z45).f0 = 5 → ∀ i, i < code.length → ((code.getD i z45).f0 = 11 ∨ (code.getD i z45).f0 = 13) → (code.getD i z45).f2 = (code.getD q z45).f1 → leak_Leaks.f k t lo gl code (q : Nat) = some true := by
      by_cases he : (code.getD q z45).f0 = 5 ∧ ∃ i, i < code.length ∧ ((code.getD i z45).f0 = 11 ∨ (code.getD i z45).f0 = 13) ∧ (code.getD i z45).f2 = (code.getD q z45).f1
      · obtain ⟨h5, i, hi, h11, hf⟩ := he
        obtain ⟨K, hK⟩ := f3 h5 i hi h11 hf
        exact ⟨K, fun k hk _ _ _ _ _ => hK k hk⟩
      · exact ⟨0, fun _ _ h5 i hi h11 hf => absurd ⟨h5, i, hi, h11, hf⟩ he⟩
    have m0 : K0 ≤ max (max K0 K1) (max K2 (max K3 K4)) := Nat.le_trans (Nat.le_max_left K0 K1) (Nat.le_max_left _ _)
    have m1 : K1 ≤ max (max K0 K1) (max K2 (max K3 K4)) := Nat.le_trans (Nat.le_max_right K0 K1) (Nat.le_max_left _ _)
    have m2 : K2 ≤ max (max K0 K1) (max K2 (max K3 K4)) := Nat.le_trans (Nat.le_max_left _ _) (Nat.le_max_right _ _)
    have m3 : K3 ≤ max (max K0 K1) (max K2 (max K3 K4)) := Nat.le_trans (Nat.le_trans (Nat.le_max_left K3 K4) (Nat.le_max_right K2 _)) (Nat.le_max_right _ _)
    have m4 : K4 ≤ max (max K0 K1) (max K2 (max K3 K4)) := Nat.le_trans (Nat.le_trans (Nat.le_max_right K3 K4) (Nat.le_max_right K2 _)) (Nat.le_max_right _ _)
    generalize max (max K0 K1) (max K2 (max K3 K4)) = K at m0 m1 m2 m3 m4
    exact none_walk K q A0_0 c0_0 t lo gl A0_3 c0_3 code a1 w hr0_0 hc0_0 hr0_3 hc0_3 hrT (hal K m0) (hb K m1) h1 h60 hql hq ⟨fun j hj => h2 K m2 j hj⟩ ⟨fun h => h3 K m3 h⟩ ⟨fun h5 i hi h11 hf => h4 K m4 h5 i hi h11 hf⟩
end Go.Proofs.YtgfnpdfhdgenbaaDoor.P
