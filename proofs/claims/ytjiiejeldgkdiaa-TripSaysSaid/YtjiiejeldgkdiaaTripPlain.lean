/- Proved: the values of the functions that TripSays calls, as plain numbers. No condition beside the bounds of their kinds. -/
import Derived.Test.YtjiiejeldgkdiaaTripLaw
set_option linter.unusedVariables false
set_option linter.unusedSimpArgs false
namespace Go.Proofs.Ytjiiejeldgkdiaa.Trip
open Go.RowKit Go.Proofs.Ytjiiejeldgkdiaa.PTripSays Go.Proofs.YtjiiejeldgkdiaaW.PrintWords Go.Proofs.YtjiiejeldgkdiaaW.PrintLast Go.Proofs.YtjiiejeldgkdiaaW.PrintMore

theorem tin (a b c : Int) : trip_in.f a b c = some (decide (b ≤ a ∧ a ≤ c)) := by
  unfold trip_in.f; by_cases h : a ≥ b
  · rw [if_pos h]; simp [show b ≤ a from h]
  · rw [if_neg h]; simp [show ¬ b ≤ a from h]
theorem rin (a b c : Int) : patchbayref3_In.f a b c = some (decide (b ≤ a ∧ a ≤ c)) := by
  unfold patchbayref3_In.f; by_cases h : a ≥ b
  · rw [if_pos h]; simp [show b ≤ a from h]
  · rw [if_neg h]; simp [show ¬ b ≤ a from h]

def tE (has : Bool) (sm va sh : Int) : Int :=
  if (0 ≤ sh ∧ sh ≤ 10) ∧ (0 ≤ sm ∧ sm ≤ 16007) ∧ (0 ≤ va ∧ va ≤ 8000) then (if has = true ∨ (sm = 0 ∧ va = 0) then 0 else 7) else 1

theorem check_v (k : Nat) (has : Bool) (sm va sh : Int) : trip_Check.f (k + 1) has sm va sh = some (tE has sm va sh) := by
  unfold trip_Check.f tE
  simp only [tin, Option.bind_some, trip_Check.j0, decide_eq_true_eq]
  by_cases h1 : 0 ≤ sh ∧ sh ≤ 10
  · rw [if_pos h1]
    by_cases h2 : 0 ≤ sm ∧ sm ≤ 16007
    · rw [if_pos h2]
      by_cases h3 : 0 ≤ va ∧ va ≤ 8000
      · simp only [h1, h2, h3, and_self, decide_true, Bool.not_true, Bool.false_eq_true, if_false, if_true]
        cases has
        · by_cases h4 : sm = 0
          · by_cases h5 : va = 0
            · simp [h4, h5]
            · simp [h4, h5]
          · simp [h4]
        · simp
      · simp [h3]
    · rw [if_neg h2]; simp [h2]
  · rw [if_neg h1]; simp [h1]

theorem fault_v (k : Nat) (has : Bool) (sm va sh : Int) : patchbayref3_TripFault.f (k + 1) has sm va sh = some (tE has sm va sh) := by
  unfold patchbayref3_TripFault.f tE
  simp only [rin, Option.bind_some, patchbayref3_TripFault.j0, decide_eq_true_eq]
  by_cases h1 : 0 ≤ sh ∧ sh ≤ 10
  · rw [if_pos h1]
    by_cases h2 : 0 ≤ sm ∧ sm ≤ 16007
    · rw [if_pos h2]
      by_cases h3 : 0 ≤ va ∧ va ≤ 8000
      · have hw : wrap64 (sm + va) = sm + va := by unfold wrap64; omega
        simp only [h1, h2, h3, and_self, decide_true, Bool.not_true, Bool.false_eq_true, if_false, if_true, hw]
        cases has
        · simp only [Bool.false_eq_true, if_false, false_or]
          by_cases h4 : sm = 0 ∧ va = 0
          · rw [if_neg (by omega), if_pos h4]
          · rw [if_pos (by omega), if_neg h4]
        · simp
      · simp [h3]
    · rw [if_neg h2]; simp [h2]
  · rw [if_neg h1]; simp [h1]

/-- The timeout ahead of the doublings, and behind them. -/
def t0 (has : Bool) (sm va : Int) : Int := if has = true then (if sm / 8 + (if va > 0 then va else 1) < 20 then 20 else sm / 8 + (if va > 0 then va else 1)) else 300
def tT (has : Bool) (sm va sh : Int) : Int := if t0 has sm va * 2 ^ sh.toNat > 2000 then 2000 else t0 has sm va * 2 ^ sh.toNat

theorem t0_bd {has : Bool} {sm va : Int} (h2 : 0 ≤ sm ∧ sm ≤ 16007) (h3 : 0 ≤ va ∧ va ≤ 8000) : 20 ≤ t0 has sm va ∧ t0 has sm va ≤ 10001 := by
  unfold t0
  cases has
  · simp
  · simp only [if_true]; split <;> split <;> omega

theorem le_mulp {a b : Int} (ha : 0 ≤ a) (hb : 1 ≤ b) : a ≤ a * b := by
  have := Int.mul_le_mul_of_nonneg_left hb ha
  omega

theorem loop_v (d : Nat) : ∀ (k : Nat) (x i sh : Int) (a : Bool) (b c : Int), 20 ≤ x → x ≤ 100000 → 0 ≤ i → i + d = sh → sh ≤ 10 → d < k →
    patchbayref3_TripTimeout.l0 k x i a b c sh = some (if x * 2 ^ d > 2000 then 2000 else x * 2 ^ d) := by
  induction d with
  | zero =>
    intro k x i sh a b c h0 h1 hi hd hs hk
    obtain ⟨k, rfl⟩ : ∃ m, k = m + 1 := ⟨k - 1, by omega⟩
    simp only [patchbayref3_TripTimeout.l0]
    rw [if_neg (by omega)]
    simp only [Int.pow_zero, Int.mul_one]
    split <;> rfl
  | succ d ih =>
    intro k x i sh a b c h0 h1 hi hd hs hk
    obtain ⟨k, rfl⟩ : ∃ m, k = m + 1 := ⟨k - 1, by omega⟩
    simp only [patchbayref3_TripTimeout.l0]
    rw [if_pos (by omega)]
    have hp : (1 : Int) ≤ 2 ^ d := by have := Int.pow_pos (n := (2 : Int)) (m := d) (by omega); omega
    have e : x * 2 ^ (d + 1) = (x + x) * 2 ^ d := by rw [Int.pow_succ]; rw [Int.add_mul]; have : x * (2 ^ d * 2) = x * 2 ^ d * 2 := by rw [Int.mul_assoc]
                                                     rw [this]; omega
    by_cases h2 : x < 2000
    · rw [if_pos h2, show wrap64 (x + x) = x + x from by unfold wrap64; omega, show wrap64 (i + 1) = i + 1 from by unfold wrap64; omega]
      rw [ih k (x + x) (i + 1) sh a b c (by omega) (by omega) (by omega) (by omega) hs (by omega), e]
    · rw [if_neg h2]
      have : 4000 ≤ (x + x) * 2 ^ d := by
        have := le_mulp (a := x + x) (by omega) hp
        omega
      rw [e, if_pos (show (x + x) * 2 ^ d > 2000 by omega)]
      by_cases h3 : x > 2000
      · rw [if_pos h3]
      · rw [if_neg h3]; congr 1; omega

theorem ttime_v (has : Bool) (sm va sh : Int) (h1 : 0 ≤ sh ∧ sh ≤ 10) (h2 : 0 ≤ sm ∧ sm ≤ 16007) (h3 : 0 ≤ va ∧ va ≤ 8000) (k : Nat) (hk : 12 ≤ k) :
    patchbayref3_TripTimeout.f k has sm va sh = some (tT has sm va sh) := by
  obtain ⟨k, rfl⟩ : ∃ m, k = m + 1 := ⟨k - 1, by omega⟩
  have hb := t0_bd (has := has) h2 h3
  have go : ∀ x, x = t0 has sm va → patchbayref3_TripTimeout.j0 (k + 1) x has sm va sh = some (tT has sm va sh) := by
    intro x hx
    simp only [patchbayref3_TripTimeout.j0]
    rw [loop_v sh.toNat k x 0 sh has sm va (by omega) (by omega) (by omega) (by omega) (by omega) (by omega)]
    unfold tT; rw [hx]
  have e : Int.tdiv sm 8 = sm / 8 := Int.tdiv_eq_ediv_of_nonneg (by omega)
  have w1 : wrap64 (wrap64 (sm / 8) + va) = sm / 8 + va := by unfold wrap64; omega
  have w2 : wrap64 (wrap64 (sm / 8) + 1) = sm / 8 + 1 := by unfold wrap64; omega
  unfold patchbayref3_TripTimeout.f
  rw [e, w1, w2]
  cases has
  · simp only [Bool.false_eq_true, if_false]
    exact go _ (by simp [t0])
  · simp only [if_true]
    by_cases h4 : va > 0
    · rw [if_pos h4]
      by_cases h5 : sm / 8 + va < 20
      · rw [if_pos h5]; exact go _ (by simp [t0, h4, h5])
      · rw [if_neg h5]; exact go _ (by simp [t0, h4, h5])
    · rw [if_neg h4]
      by_cases h5 : sm / 8 + 1 < 20
      · rw [if_pos h5]; exact go _ (by simp [t0, h4, h5])
      · rw [if_neg h5]; exact go _ (by simp [t0, h4, h5])

theorem pow_cases (x sh : Int) (h1 : 0 ≤ sh ∧ sh ≤ 10) (hx : 20 ≤ x ∧ x ≤ 2000) : shl .i64 x sh = x * 2 ^ sh.toNat := by
  have hs : sh = 0 ∨ sh = 1 ∨ sh = 2 ∨ sh = 3 ∨ sh = 4 ∨ sh = 5 ∨ sh = 6 ∨ sh = 7 ∨ sh = 8 ∨ sh = 9 ∨ sh = 10 := by omega
  unfold shl
  rcases hs with rfl | rfl | rfl | rfl | rfl | rfl | rfl | rfl | rfl | rfl | rfl <;> (simp [IntKind.bits, i64_w]; unfold wrap64; omega)

theorem time_v (has : Bool) (sm va sh : Int) (h : tE has sm va sh = 0) (h1 : 0 ≤ sh ∧ sh ≤ 10) (h2 : 0 ≤ sm ∧ sm ≤ 16007) (h3 : 0 ≤ va ∧ va ≤ 8000) (k : Nat) :
    trip_Timeout.f (k + 1) has sm va sh = some (tT has sm va sh, 0) := by
  unfold trip_Timeout.f
  rw [check_v, h]
  simp only [Option.bind_some, if_true]
  have e : Int.tdiv sm 8 = sm / 8 := Int.tdiv_eq_ediv_of_nonneg (by omega)
  have hb := t0_bd (has := has) h2 h3
  have hp : (1 : Int) ≤ 2 ^ sh.toNat := by have := Int.pow_pos (n := (2 : Int)) (m := sh.toNat) (by omega); omega
  have fin : mn ((if t0 has sm va > 2000 then 2000 else t0 has sm va) * 2 ^ sh.toNat) 2000 = tT has sm va sh := by
    unfold mn tT
    by_cases h4 : t0 has sm va > 2000
    · rw [if_pos h4]
      have a1 := le_mulp (a := 2000) (by omega) hp
      have a2 := le_mulp (a := t0 has sm va) (by omega) hp
      rw [if_pos (show t0 has sm va * 2 ^ sh.toNat > 2000 by omega)]
      split <;> omega
    · rw [if_neg h4]
  rw [e]
  cases has
  · simp only [Bool.false_eq_true, if_false]
    rw [if_pos h1.1, pow_cases _ _ h1 (by omega), ← fin]
    simp [t0]
  · simp only [if_true]
    have w1 : wrap64 (sm / 8) = sm / 8 := by unfold wrap64; omega
    have w2 : wrap64 (sm / 8 + mx va 1) = sm / 8 + mx va 1 := by unfold wrap64 mx; split <;> omega
    rw [if_pos h1.1, w1, w2]
    have e2 : mn (mx (sm / 8 + mx va 1) 20) 2000 = if t0 true sm va > 2000 then 2000 else t0 true sm va := by
      unfold mn mx t0; simp only [if_true]
      repeat' split
      all_goals omega
    rw [e2, pow_cases _ _ h1 (by split <;> omega), fin]

theorem time_e (has : Bool) (sm va sh : Int) (h : tE has sm va sh ≠ 0) (k : Nat) : trip_Timeout.f (k + 1) has sm va sh = some (0, tE has sm va sh) := by
  unfold trip_Timeout.f
  rw [check_v]
  simp only [Option.bind_some]
  rw [if_neg h]

/-- The estimator behind a measurement. -/
def sSm (has : Bool) (sm m : Int) : Int := if has = true then sm - sm / 8 + m else 8 * m
def sVa (has : Bool) (sm va m : Int) : Int := if has = true then (if m > sm / 8 then va - va / 4 + m - sm / 8 else va - va / 4 + sm / 8 - m) else 2 * m

theorem sample_v (has : Bool) (sm va sh m : Int) (h : tE has sm va sh = 0) (h2 : 0 ≤ sm ∧ sm ≤ 16007) (h3 : 0 ≤ va ∧ va ≤ 8000) (hm : 0 ≤ m ∧ m ≤ 2000) (k : Nat) :
    trip_Sample.f (k + 1) has sm va sh m = some (true, sSm has sm m, sVa has sm va m, 0, 0) := by
  unfold trip_Sample.f
  rw [check_v, h, tin]
  simp only [Option.bind_some, if_true]
  rw [if_pos (by simp; exact hm)]
  cases has
  · simp only [Bool.false_eq_true, if_false, sSm, sVa]
    rw [show wrap64 (8 * m) = 8 * m from by unfold wrap64; omega, show wrap64 (2 * m) = 2 * m from by unfold wrap64; omega]
  · simp only [if_true, sSm, sVa]
    have e : Int.tdiv sm 8 = sm / 8 := Int.tdiv_eq_ediv_of_nonneg (by omega)
    have e2 : Int.tdiv va 4 = va / 4 := Int.tdiv_eq_ediv_of_nonneg (by omega)
    rw [e, e2, show wrap64 (sm / 8) = sm / 8 from by unfold wrap64; omega, show wrap64 (va / 4) = va / 4 from by unfold wrap64; omega, show wrap64 (m - sm / 8) = m - sm / 8 from by unfold wrap64; omega,
      show wrap64 (-(m - sm / 8)) = -(m - sm / 8) from by unfold wrap64; omega]
    have a1 : wrap64 (sm + (m - sm / 8)) = sm - sm / 8 + m := by unfold wrap64; omega
    have a2 : wrap64 (va + wrap64 (mx (m - sm / 8) (-(m - sm / 8)) - va / 4)) = if m > sm / 8 then va - va / 4 + m - sm / 8 else va - va / 4 + sm / 8 - m := by
      unfold mx wrap64; split <;> split <;> omega
    rw [a1, a2]
theorem sample_r (has : Bool) (sm va sh m : Int) (h : tE has sm va sh = 0) (hm : ¬ (0 ≤ m ∧ m ≤ 2000)) (k : Nat) :
    trip_Sample.f (k + 1) has sm va sh m = some (false, 0, 0, 0, 10) := by
  unfold trip_Sample.f
  rw [check_v, h, tin]
  simp only [Option.bind_some, if_true]
  rw [if_neg (by simpa using hm)]
theorem sample_e (has : Bool) (sm va sh m : Int) (h : tE has sm va sh ≠ 0) (k : Nat) :
    trip_Sample.f (k + 1) has sm va sh m = some (false, 0, 0, 0, tE has sm va sh) := by
  unfold trip_Sample.f
  rw [check_v]
  simp only [Option.bind_some]
  rw [if_neg h]
theorem expire_v (has : Bool) (sm va sh : Int) (h : tE has sm va sh = 0) (h1 : 0 ≤ sh ∧ sh ≤ 10) (k : Nat) :
    trip_Expire.f (k + 1) has sm va sh = some (has, sm, va, if sh < 10 then sh + 1 else sh, 0) := by
  unfold trip_Expire.f
  rw [check_v, h]
  simp only [Option.bind_some, if_true]
  rw [show mn (wrap64 (sh + 1)) 10 = if sh < 10 then sh + 1 else sh from by unfold mn wrap64; split <;> split <;> omega]
theorem expire_e (has : Bool) (sm va sh : Int) (h : tE has sm va sh ≠ 0) (k : Nat) :
    trip_Expire.f (k + 1) has sm va sh = some (false, 0, 0, 0, tE has sm va sh) := by
  unfold trip_Expire.f
  rw [check_v]
  simp only [Option.bind_some]
  rw [if_neg h]
theorem tE_zero {has : Bool} {sm va sh : Int} (h : tE has sm va sh = 0) : (0 ≤ sh ∧ sh ≤ 10) ∧ (0 ≤ sm ∧ sm ≤ 16007) ∧ (0 ≤ va ∧ va ≤ 8000) := by
  unfold tE at h; split at h
  · assumption
  · omega


theorem rsample_v (has : Bool) (sm va sh m : Int) (h2 : 0 ≤ sm ∧ sm ≤ 16007) (h3 : 0 ≤ va ∧ va ≤ 8000) (hm : 0 ≤ m ∧ m ≤ 2000) :
    patchbayref3_TripSample.f has sm va sh m = some (true, sSm has sm m, sVa has sm va m, 0) := by
  unfold patchbayref3_TripSample.f
  cases has
  · simp only [Bool.false_eq_true, if_false, sSm, sVa]
    rw [show wrap64 (8 * m) = 8 * m from by unfold wrap64; omega, show wrap64 (2 * m) = 2 * m from by unfold wrap64; omega]
  · simp only [if_true, sSm, sVa]
    have e : Int.tdiv sm 8 = sm / 8 := Int.tdiv_eq_ediv_of_nonneg (by omega)
    have e2 : Int.tdiv va 4 = va / 4 := Int.tdiv_eq_ediv_of_nonneg (by omega)
    rw [e, e2, show wrap64 (sm / 8) = sm / 8 from by unfold wrap64; omega, show wrap64 (va / 4) = va / 4 from by unfold wrap64; omega, show wrap64 (sm - sm / 8) = sm - sm / 8 from by unfold wrap64; omega,
      show wrap64 (sm - sm / 8 + m) = sm - sm / 8 + m from by unfold wrap64; omega, show wrap64 (va - va / 4) = va - va / 4 from by unfold wrap64; omega,
      show wrap64 (va - va / 4 + m) = va - va / 4 + m from by unfold wrap64; omega, show wrap64 (va - va / 4 + m - sm / 8) = va - va / 4 + m - sm / 8 from by unfold wrap64; omega,
      show wrap64 (va - va / 4 + sm / 8) = va - va / 4 + sm / 8 from by unfold wrap64; omega, show wrap64 (va - va / 4 + sm / 8 - m) = va - va / 4 + sm / 8 - m from by unfold wrap64; omega]
    by_cases h : m > sm / 8
    · rw [if_pos h, if_pos h]
    · rw [if_neg h, if_neg h]

theorem tfact : ∀ k, patchbaylaw3_tripFact.f (k + 1) = some true := by
  intro k
  unfold patchbaylaw3_tripFact.f trip_First.f
  simp only [Option.bind_some]
  have h : tE false 0 0 0 = 0 := by decide
  rw [time_v false 0 0 0 h (by decide) (by decide) (by decide)]
  decide

theorem law_bad (has : Bool) (sm va sh m : Int) (h : tE has sm va sh ≠ 0) : patchbaylaw3_TripSays.f 13 has sm va sh m = some true := by
  unfold patchbaylaw3_TripSays.f
  rw [tfact 12]
  simp only [Option.bind_some, if_true]
  rw [fault_v 12]
  simp only [Option.bind_some]
  rw [if_neg h]
  simp only [patchbaylaw3_TripSays.j1]
  rw [sample_e _ _ _ _ _ h 11, expire_e _ _ _ _ h 11, time_e _ _ _ _ h 11, check_v 11]
  simp [trip_First.f]

theorem law_last (has : Bool) (sm va sh m : Int) (h : tE has sm va sh = 0) (g A1 A2 A3 : Int) (A0 : Bool) (k : Nat) (hs : trip_Sample.f (k + 1) has sm va sh m = some (A0, A1, A2, A3, g)) :
    patchbaylaw3_TripSays.j1 (k + 2) m 0 g (tT has sm va sh) has sm va sh A0 A1 A2 A3 has sm va (if sh < 10 then sh + 1 else sh) = some true := by
  obtain ⟨h1, h2, h3⟩ := tE_zero h
  rw [patchbaylaw3_TripSays.j1]
  rw [hs, expire_v _ _ _ _ h h1 k, time_v _ _ _ _ h h1 h2 h3 k, check_v k]
  simp [trip_First.f, h]

theorem law_ok (has : Bool) (sm va sh m : Int) (h : tE has sm va sh = 0) : patchbaylaw3_TripSays.f 14 has sm va sh m = some true := by
  obtain ⟨h1, h2, h3⟩ := tE_zero h
  unfold patchbaylaw3_TripSays.f
  rw [tfact 13]
  simp only [Option.bind_some, if_true]
  rw [fault_v 13, h]
  simp only [Option.bind_some, if_true]
  rw [ttime_v _ _ _ _ h1 h2 h3 14 (by omega)]
  simp only [Option.bind_some]
  have key : ∀ s, s = (if sh < 10 then sh + 1 else sh) → patchbaylaw3_TripSays.j0 14 m 0 0 (tT has sm va sh) has sm va sh false 0 0 0 has sm va s = some true := by
    rintro s rfl
    rw [patchbaylaw3_TripSays.j0]
    rw [rin]
    simp only [Option.bind_some]
    by_cases hm : 0 ≤ m ∧ m ≤ 2000
    · rw [if_pos (by simp; exact hm), rsample_v _ _ _ _ _ h2 h3 hm]
      simp only [Option.bind_some]
      exact law_last has sm va sh m h 0 (sSm has sm m) (sVa has sm va m) 0 true 11 (sample_v has sm va sh m h h2 h3 hm 11)
    · rw [if_neg (by simpa using hm)]
      exact law_last has sm va sh m h 10 0 0 0 false 11 (sample_r has sm va sh m h hm 11)
  by_cases hs : sh < 10
  · rw [if_pos hs]; exact key _ (by rw [if_pos hs]; unfold wrap64; omega)
  · rw [if_neg hs]; exact key _ (by rw [if_neg hs])

end Go.Proofs.Ytjiiejeldgkdiaa.Trip
