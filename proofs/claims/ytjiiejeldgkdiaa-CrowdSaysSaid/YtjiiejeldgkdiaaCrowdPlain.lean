/- Proved: CrowdSays' printed function says true at every input of its kinds. No condition beside the bounds of the kinds. -/
import Derived.Test.YtjiiejeldgkdiaaCrowdLaw
set_option linter.unusedVariables false
set_option linter.unusedSimpArgs false
namespace Go.Proofs.Ytjiiejeldgkdiaa.Crowd
open Go.RowKit Go.Proofs.Ytjiiejeldgkdiaa.PCrowdSays Go.Proofs.YtjiiejeldgkdiaaW.PrintWords Go.Proofs.YtjiiejeldgkdiaaW.PrintLast Go.Proofs.YtjiiejeldgkdiaaW.PrintMore

theorem tm (n : Int) : Int.tmod n 4294967296 = if 0 ≤ n then n % 4294967296 else -(-n % 4294967296) := by
  by_cases h : 0 ≤ n
  · rw [if_pos h]; exact Int.tmod_eq_emod_of_nonneg h
  · rw [if_neg h]
    have e : Int.tmod (-(-n)) 4294967296 = -(Int.tmod (-n) 4294967296) := Int.neg_tmod _ _
    rw [Int.neg_neg] at e
    rw [e, Int.tmod_eq_emod_of_nonneg (by omega)]
theorem round_v (n : Int) (h : -9223372036854775808 ≤ n ∧ n ≤ 9223372036854775807) : patchbayref3_Round.f n = some (n % 4294967296) := by
  unfold patchbayref3_Round.f
  rw [tm]
  by_cases h0 : 0 ≤ n
  · simp only [h0, if_true]
    rw [if_neg (by omega)]
  · simp only [h0, if_false]
    by_cases h1 : -(-n % 4294967296) < 0
    · rw [if_pos h1]; congr 1; unfold wrap64; omega
    · rw [if_neg h1]; congr 1; omega
def sd (a b : Int) : Int := (a - b + 2147483648) % 4294967296 - 2147483648
theorem sdiff_v (a b : Int) (ha : 0 ≤ a ∧ a < 4294967296) (hb : 0 ≤ b ∧ b < 4294967296) : seq_Diff.f a b = some (sd a b) := by
  unfold seq_Diff.f sd wrap64 wrap32; congr 1; omega
theorem rdiff_v (a b : Int) (ha : 0 ≤ a ∧ a < 4294967296) (hb : 0 ≤ b ∧ b < 4294967296) : patchbayref3_Diff.f a b = some (sd a b) := by
  unfold patchbayref3_Diff.f
  have e : wrap64 (wrap64 a - wrap64 b) = a - b := by unfold wrap64; omega
  rw [e, round_v _ (by omega)]
  simp only [Option.bind_some, ge_iff_le]
  unfold sd wrap64
  split <;> (congr 1; omega)
theorem sd_bd (a b : Int) : -2147483648 ≤ sd a b ∧ sd a b < 2147483648 := by unfold sd; omega
theorem less_v (a b : Int) (ha : 0 ≤ a ∧ a < 4294967296) (hb : 0 ≤ b ∧ b < 4294967296) : seq_Less.f a b = some (decide (sd a b < 0)) := by
  unfold seq_Less.f; rw [sdiff_v a b ha hb]; rfl
theorem cin (a b c : Int) : crowd_in.f a b c = some (decide (b ≤ a ∧ a ≤ c)) := by
  unfold crowd_in.f; by_cases h : a ≥ b
  · rw [if_pos h]; simp [show b ≤ a from h]
  · rw [if_neg h]; simp [show ¬ b ≤ a from h]
theorem rin (a b c : Int) : patchbayref3_In.f a b c = some (decide (b ≤ a ∧ a ≤ c)) := by
  unfold patchbayref3_In.f; by_cases h : a ≥ b
  · rw [if_pos h]; simp [show b ≤ a from h]
  · rw [if_neg h]; simp [show ¬ b ≤ a from h]

def cF (W L C D m : Int) : Int := if 1 ≤ m ∧ m ≤ 1500 then (if (m ≤ W ∧ W ≤ 65535) ∧ (2 * m ≤ L ∧ L ≤ 65535) ∧ (0 ≤ C ∧ C ≤ 65535) ∧ (0 ≤ D ∧ D ≤ 3) then 0 else 10) else 1

theorem check_v (W L C D : Int) (F : Bool) (R m : Int) : crowd_Check.f W L C D F R m = some (cF W L C D m) := by
  unfold crowd_Check.f cF
  simp only [cin, Option.bind_some, decide_eq_true_eq]
  by_cases h0 : 1 ≤ m ∧ m ≤ 1500
  · rw [if_pos h0, if_pos h0, show wrap64 (2 * m) = 2 * m from by unfold wrap64; omega]
    repeat' split
    all_goals first | rfl | omega
  · rw [if_neg h0, if_neg h0]
theorem fault_v (W L C D : Int) (F : Bool) (R m : Int) : patchbayref3_CrowdFault.f W L C D F R m = some (cF W L C D m) := by
  unfold patchbayref3_CrowdFault.f cF
  simp only [rin, Option.bind_some, decide_eq_true_eq]
  by_cases h0 : 1 ≤ m ∧ m ≤ 1500
  · rw [if_pos h0, if_pos h0, show wrap64 (2 * m) = 2 * m from by unfold wrap64; omega]
    repeat' split
    all_goals first | rfl | omega
  · rw [if_neg h0, if_neg h0]
theorem cF_zero {W L C D m : Int} (h : cF W L C D m = 0) : (1 ≤ m ∧ m ≤ 1500) ∧ (m ≤ W ∧ W ≤ 65535) ∧ (2 * m ≤ L ∧ L ≤ 65535) ∧ (0 ≤ C ∧ C ≤ 65535) ∧ (0 ≤ D ∧ D ≤ 3) := by
  unfold cF at h
  split at h
  · split at h
    · exact ⟨by assumption, by assumption⟩
    · omega
  · omega

def hv (m fl : Int) : Int := mn (mx (wrap64 (Int.tdiv fl 2)) (wrap64 (2 * m))) 65535
theorem cut_v (m fl : Int) : crowd_cut.f m fl = some (hv m fl) := rfl
theorem half_v (m fl : Int) : patchbayref3_Half.f m fl = some (hv m fl) := by
  unfold patchbayref3_Half.f hv mn mx
  repeat' split
  all_goals first | rfl | (congr 1; omega) | omega
theorem hv_bd (m fl : Int) (h : 1 ≤ m ∧ m ≤ 1500) : 2 ≤ hv m fl ∧ hv m fl ≤ 65535 := by
  unfold hv mn mx
  have : wrap64 (2 * m) = 2 * m := by unfold wrap64; omega
  rw [this]
  repeat' split
  all_goals omega
theorem cap_v (n : Int) : patchbayref3_cap16.f n = some (mn n 65535) := by
  unfold patchbayref3_cap16.f mn
  repeat' split
  all_goals first | rfl | (congr 1; omega) | omega
theorem w64 {n : Int} (h : -9223372036854775808 ≤ n ∧ n ≤ 9223372036854775807) : wrap64 n = n := by unfold wrap64; omega

/-- Both acknowledge alike. -/
theorem ack_v (W L C D : Int) (F : Bool) (R m ak u x : Int) (h : cF W L C D m = 0) (hR : 0 ≤ R ∧ R < 4294967296) (hu : 0 ≤ u ∧ u < 4294967296) (hx : 0 ≤ x ∧ x < 4294967296)
    (hak : 0 ≤ ak ∧ ak ≤ 2147483648) (hd : 0 ≤ sd x u) (k : Nat) :
    ∃ r1 r2 r3 r4 r5 r6 b, patchbayref3_CrowdAck.f (k + 3) W L C D F R m ak u x = some (r1, r2, r3, r4, r5, r6, b) ∧ crowd_Ack.f (k + 3) W L C D F R m ak u x = some (r1, r2, r3, r4, r5, r6, b, 0) := by
  obtain ⟨hm, hW, hL, hC, hD⟩ := cF_zero h
  unfold patchbayref3_CrowdAck.f crowd_Ack.f
  rw [check_v, h]
  simp only [Option.bind_some, if_true]
  rw [if_neg (show ¬ ak < 0 by omega), if_neg (show ¬ ak > 2147483648 by omega), less_v x u hx hu]
  simp only [Option.bind_some, crowd_Ack.j0]
  rw [show decide (sd x u < 0) = false from decide_eq_false (by omega)]
  simp only [Bool.false_eq_true, if_false]
  by_cases h1 : ak = 0
  · rw [if_pos h1, if_pos h1]
    cases F
    · simp only [Bool.false_eq_true, if_false, crowd_Ack.j1]
      rw [if_pos h1, w64 (n := D + 1) (by omega)]
      by_cases h2 : D < 2
      · rw [if_pos h2, if_neg (by omega)]
        exact ⟨_, _, _, _, _, _, _, rfl, rfl⟩
      · rw [if_neg h2, if_pos (by omega), rdiff_v x u hx hu, sdiff_v x u hx hu]
        simp only [Option.bind_some]
        rw [half_v, cut_v]
        simp only [Option.bind_some]
        rw [cap_v]
        simp only [Option.bind_some]
        exact ⟨_, _, _, _, _, _, _, rfl, rfl⟩
    · simp only [if_true, crowd_Ack.j1]
      rw [cap_v]
      simp only [Option.bind_some]
      exact ⟨_, _, _, _, _, _, _, rfl, rfl⟩
  · rw [if_neg h1, if_neg h1]
    cases F
    · simp only [Bool.false_eq_true, if_false, crowd_Ack.j1]
      rw [if_neg h1]
      simp only [crowd_Ack.j2, Bool.false_eq_true, if_false]
      by_cases h2 : W < L
      · rw [if_pos h2, if_pos h2]
        by_cases h3 : ak > m
        · rw [if_pos h3, cap_v]
          simp only [Option.bind_some]
          rw [show mn ak m = m from by unfold mn; rw [if_pos (by omega)]]
          exact ⟨_, _, _, _, _, _, _, rfl, rfl⟩
        · rw [if_neg h3, cap_v]
          simp only [Option.bind_some]
          rw [show mn ak m = ak from by unfold mn; rw [if_neg (by omega)]]
          exact ⟨_, _, _, _, _, _, _, rfl, rfl⟩
      · rw [if_neg h2, if_neg h2]
        have key : ∀ a, a = mn ak W → ∃ r1 r2 r3 r4 r5 r6 b, patchbayref3_CrowdAck.j0 (k + 3) m a W L C 0 false R = some (r1, r2, r3, r4, r5, r6, b) ∧
            (if wrap64 (C + mn ak W) ≥ W then some (mn (wrap64 (W + m)) 65535, L, mn (wrap64 (wrap64 (C + mn ak W) - W)) 65535, (0 : Int), false, R, false, (0 : Int)) else some (W, L, mn (wrap64 (C + mn ak W)) 65535, 0, false, R, false, 0)) = some (r1, r2, r3, r4, r5, r6, b, 0) := by
          rintro a rfl
          simp only [patchbayref3_CrowdAck.j0]
          rw [cap_v, cap_v, cap_v]
          simp only [Option.bind_some]
          by_cases h4 : wrap64 (C + mn ak W) ≥ W
          · rw [if_pos h4, if_pos h4]; exact ⟨_, _, _, _, _, _, _, rfl, rfl⟩
          · rw [if_neg h4, if_neg h4]; exact ⟨_, _, _, _, _, _, _, rfl, rfl⟩
        by_cases h3 : ak > W
        · rw [if_pos h3]; exact key W (by unfold mn; rw [if_pos (by omega)])
        · rw [if_neg h3]; exact key ak (by unfold mn; rw [if_neg (by omega)])
    · simp only [if_true, crowd_Ack.j1, Bool.false_eq_true, if_false]
      rw [if_neg h1, rdiff_v u R hu hR, less_v u R hu hR]
      simp only [Option.bind_some, crowd_Ack.j2]
      by_cases h2 : sd u R ≥ 0
      · rw [if_pos h2, if_neg (by simp; omega)]
        simp only [if_true]
        exact ⟨_, _, _, _, _, _, _, rfl, rfl⟩
      · rw [if_neg h2, if_pos (show decide (sd u R < 0) = true from decide_eq_true (by omega)), w64 (n := W - ak) (by omega)]
        by_cases h3 : ak > W
        · rw [if_pos h3, cap_v]
          simp only [Option.bind_some]
          rw [w64 (n := W - W) (by omega), show mx (W - ak) 0 = W - W from by unfold mx; rw [if_pos (by omega)]; omega]
          exact ⟨_, _, _, _, _, _, _, rfl, rfl⟩
        · rw [if_neg h3, cap_v]
          simp only [Option.bind_some]
          rw [show mx (W - ak) 0 = W - ak from by unfold mx; split <;> omega]
          exact ⟨_, _, _, _, _, _, _, rfl, rfl⟩

theorem ack_form (W L C D : Int) (F : Bool) (R m ak u x : Int) (h : cF W L C D m = 0) (hu : 0 ≤ u ∧ u < 4294967296) (hx : 0 ≤ x ∧ x < 4294967296)
    (hbad : ¬ (0 ≤ ak ∧ ak ≤ 2147483648) ∨ sd x u < 0) (k : Nat) : crowd_Ack.f (k + 3) W L C D F R m ak u x = some (0, 0, 0, 0, false, 0, false, 3) := by
  unfold crowd_Ack.f
  rw [check_v, h]
  simp only [Option.bind_some, if_true]
  rw [less_v x u hx hu]
  simp only [Option.bind_some, crowd_Ack.j0, if_true]
  by_cases h1 : ak < 0
  · rw [if_pos h1]
  · rw [if_neg h1]
    by_cases h2 : ak > 2147483648
    · rw [if_pos h2]
    · rw [if_neg h2]
      have : sd x u < 0 := by rcases hbad with h | h; omega; exact h
      simp [this]
theorem ack_bad (W L C D : Int) (F : Bool) (R m ak u x : Int) (h : cF W L C D m ≠ 0) (k : Nat) : crowd_Ack.f (k + 3) W L C D F R m ak u x = some (0, 0, 0, 0, false, 0, false, cF W L C D m) := by
  unfold crowd_Ack.f
  rw [check_v]
  simp only [Option.bind_some]
  rw [if_neg h]
theorem time_v (W L C D : Int) (F : Bool) (R m fl : Int) : crowd_Timeout.f W L C D F R m fl =
    some (if cF W L C D m = 0 then (if fl < 0 then (0, 0, 0, 0, false, 0, 3) else (m, hv m fl, 0, 0, false, 0, 0)) else (0, 0, 0, 0, false, 0, cF W L C D m)) := by
  unfold crowd_Timeout.f
  rw [check_v]
  simp only [Option.bind_some]
  rw [cut_v]
  simp only [Option.bind_some]
  split
  · split <;> rfl
  · rfl

/-- The comparisons, where the acknowledgement is what was expected. -/
theorem law_last (k : Nat) (W L C D : Int) (F : Bool) (R m ak u x fl g : Int) (again : Bool) (e1 e2 e3 e4 : Int) (e5 : Bool) (e6 : Int)
    (ha : crowd_Ack.f (k + 3) W L C D F R m ak u x = some (e1, e2, e3, e4, e5, e6, again, g)) :
    patchbaylaw3_CrowdSays.j2 (k + 5) m ak u x fl (cF W L C D m) g (cF W L C D m) again W L C D F R e1 e2 e3 e4 e5 e6 0 0 0 0 false 0 = some true := by
  simp only [patchbaylaw3_CrowdSays.j2]
  by_cases h : cF W L C D m = 0
  · rw [if_pos h]
    simp only [patchbaylaw3_CrowdSays.j3]
    rw [ha, time_v, check_v, half_v]
    simp only [Option.bind_some]
    by_cases h2 : fl < 0
    · simp [h, h2]
    · simp [h, h2]
  · rw [if_neg h]
    simp only [patchbaylaw3_CrowdSays.j3, Bool.false_eq_true, if_false]
    rw [if_neg h, ha, time_v, check_v]
    simp only [Option.bind_some]
    simp [h]

theorem law_j0 (k : Nat) (W L C D : Int) (F : Bool) (R m ak u x fl : Int) (hR : 0 ≤ R ∧ R < 4294967296) (hu : 0 ≤ u ∧ u < 4294967296) (hx : 0 ≤ x ∧ x < 4294967296) :
    patchbaylaw3_CrowdSays.j0 (k + 8) m ak u x fl W L C D F R = some true := by
  simp only [patchbaylaw3_CrowdSays.j0]
  rw [fault_v]
  simp only [Option.bind_some]
  by_cases h : cF W L C D m = 0
  · rw [if_pos h, rin, rdiff_v x u hx hu]
    simp only [Option.bind_some]
    by_cases h1 : 0 ≤ ak ∧ ak ≤ 2147483648
    · rw [if_pos (by simp; exact h1)]
      simp only [patchbaylaw3_CrowdSays.j1]
      by_cases h2 : sd x u < 0
      · rw [if_pos (by simp; exact h2)]
        exact law_last (k + 1) W L C D F R m ak u x fl 3 false 0 0 0 0 false 0 (ack_form W L C D F R m ak u x h hu hx (.inr h2) _)
      · rw [if_neg (by simp; omega), if_pos h]
        obtain ⟨r1, r2, r3, r4, r5, r6, b, ha, hb⟩ := ack_v W L C D F R m ak u x h hR hu hx h1 (by omega) (k + 3)
        rw [ha]
        simp only [Option.bind_some]
        obtain ⟨_, _, _, _, _, _, _, ha', hb'⟩ := ack_v W L C D F R m ak u x h hR hu hx h1 (by omega) (k + 1)
        have e : some (r1, r2, r3, r4, r5, r6, b, (0 : Int)) = some (_, _, _, _, _, _, _, 0) := (at_rounds (g := fun k => crowd_Ack.f k W L C D F R m ak u x) (crowd_Ack.mono _ _ _ _ _ _ _ _ _ _) (show k + 1 + 3 ≤ k + 3 + 3 by omega) hb').symm.trans hb |>.symm
        simp only [Option.some.injEq, Prod.mk.injEq, and_true] at e
        obtain ⟨rfl, rfl, rfl, rfl, rfl, rfl, rfl⟩ := e
        have l := law_last (k + 1) W L C D F R m ak u x fl 0 b r1 r2 r3 r4 r5 r6 hb'
        rw [h] at l ⊢
        exact l
    · rw [if_neg (by simpa using h1)]
      simp only [patchbaylaw3_CrowdSays.j1, if_true]
      exact law_last (k + 1) W L C D F R m ak u x fl 3 false 0 0 0 0 false 0 (ack_form W L C D F R m ak u x h hu hx (.inl h1) _)
  · rw [if_neg h]
    simp only [patchbaylaw3_CrowdSays.j1, Bool.false_eq_true, if_false]
    rw [if_neg h]
    exact law_last (k + 1) W L C D F R m ak u x fl _ false 0 0 0 0 false 0 (ack_bad W L C D F R m ak u x h _)

theorem law (W L C D : Int) (F : Bool) (R m ak u x fl : Int) (hR : 0 ≤ R ∧ R < 4294967296) (hu : 0 ≤ u ∧ u < 4294967296) (hx : 0 ≤ x ∧ x < 4294967296) :
    patchbaylaw3_CrowdSays.f 8 W L C D F R m ak u x fl = some true := by
  unfold patchbaylaw3_CrowdSays.f
  rw [show patchbaylaw3_crowdFact.f = some true from by decide +kernel]
  simp only [Option.bind_some, if_true]
  unfold crowd_First.f
  rw [cin, rin]
  simp only [Option.bind_some]
  by_cases h : 1 ≤ m ∧ m ≤ 1500
  · rw [if_pos (by simp; exact h)]
    simp only [Option.bind_some]
    rw [if_pos (by simp; exact h)]
    simp [law_j0 0 W L C D F R m ak u x fl hR hu hx]
  · rw [if_neg (by simpa using h)]
    simp only [Option.bind_some]
    rw [if_neg (by simpa using h)]
    simp [law_j0 0 W L C D F R m ak u x fl hR hu hx]

end Go.Proofs.Ytjiiejeldgkdiaa.Crowd
