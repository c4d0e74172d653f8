/- Proved: the values of the functions that SeqSays calls, as plain numbers. No condition beside the bounds of their kinds. -/
import Derived.Test.YtjiiejeldgkdiaaSeqFns
set_option linter.unusedVariables false
set_option linter.unusedSimpArgs false
namespace Go.Proofs.Ytjiiejeldgkdiaa.Pure
open Go.RowKit Go.Proofs.Ytjiiejeldgkdiaa.PSeqSays Go.Proofs.YtjiiejeldgkdiaaW.PrintWords Go.Proofs.YtjiiejeldgkdiaaW.PrintLast

theorem sq_u32 {a : Int} (h : (Lit.int .u32 a).wf = true) : 0 ≤ a ∧ a < 4294967296 := by
  simp [Lit.wf, IntKind.min, IntKind.max, IntKind.signed, IntKind.bits] at h; omega
theorem sq_i64 {a : Int} (h : (Lit.int .i64 a).wf = true) : -9223372036854775808 ≤ a ∧ a ≤ 9223372036854775807 := by
  simp [Lit.wf, IntKind.min, IntKind.max, IntKind.signed, IntKind.bits] at h; omega

theorem tm (n : Int) : Int.tmod n 4294967296 = if 0 ≤ n then n % 4294967296 else -(-n % 4294967296) := by
  by_cases h : 0 ≤ n
  · rw [if_pos h]; exact Int.tmod_eq_emod_of_nonneg h
  · rw [if_neg h]
    have e : Int.tmod (-(-n)) 4294967296 = -(Int.tmod (-n) 4294967296) := Int.neg_tmod _ _
    rw [Int.neg_neg] at e
    rw [e, Int.tmod_eq_emod_of_nonneg (by omega)]

theorem sq_round (n : Int) (h : -9223372036854775808 ≤ n ∧ n ≤ 9223372036854775807) : patchbayref3_Round.f n = some (n % 4294967296) := by
  unfold patchbayref3_Round.f
  rw [tm]
  by_cases h0 : 0 ≤ n
  · simp only [h0, if_true]
    rw [if_neg (by omega)]
  · simp only [h0, if_false]
    by_cases h1 : -(-n % 4294967296) < 0
    · rw [if_pos h1]; congr 1; unfold wrap64; omega
    · rw [if_neg h1]; congr 1; omega

def sd (a b : Int) : Int := (a - b + 2147483648) % 4294967296 - 2147483648

theorem sq_diff (a b : Int) (ha : 0 ≤ a ∧ a < 4294967296) (hb : 0 ≤ b ∧ b < 4294967296) : seq_Diff.f a b = some (sd a b) := by
  unfold seq_Diff.f sd wrap64 wrap32; congr 1; omega
theorem sq_rdiff (a b : Int) (ha : 0 ≤ a ∧ a < 4294967296) (hb : 0 ≤ b ∧ b < 4294967296) : patchbayref3_Diff.f a b = some (sd a b) := by
  unfold patchbayref3_Diff.f
  have e : wrap64 (wrap64 a - wrap64 b) = a - b := by unfold wrap64; omega
  rw [e, sq_round _ (by omega)]
  simp only [Option.bind_some, ge_iff_le]
  unfold sd wrap64
  split <;> (congr 1; omega)
theorem sq_dist (a b : Int) (ha : 0 ≤ a ∧ a < 4294967296) (hb : 0 ≤ b ∧ b < 4294967296) : patchbayref3_Dist.f a b = some ((a - b) % 4294967296) := by
  unfold patchbayref3_Dist.f
  have e : wrap64 (wrap64 a - wrap64 b) = a - b := by unfold wrap64; omega
  rw [e, sq_round _ (by omega)]
  rfl
theorem sq_in (a b c : Int) : patchbayref3_In.f a b c = some (decide (b ≤ a) && decide (a ≤ c)) := by
  unfold patchbayref3_In.f; by_cases h : a ≥ b
  · rw [if_pos h]; simp [h]
  · rw [if_neg h]; simp [show ¬ b ≤ a from h]

/-- What both Unwrap return. -/
def un (b s : Int) : Int × Int := if b < 0 ∨ 1099511627776 < b then (0, 1) else if b + sd s (b % 4294967296) < 0 then (0, 10) else (b + sd s (b % 4294967296), 0)

theorem sd_bd (a b : Int) : -2147483648 ≤ sd a b ∧ sd a b < 2147483648 := by unfold sd; omega

theorem sq_unwrap (b s : Int) (hs : 0 ≤ s ∧ s < 4294967296) (k : Nat) (hk : 1 ≤ k) : seq_Unwrap.f k b s = some (un b s) := by
  obtain ⟨k, rfl⟩ : ∃ m, k = m + 1 := ⟨k - 1, by omega⟩
  unfold seq_Unwrap.f un
  by_cases h0 : b < 0
  · rw [if_pos h0, if_pos (.inl h0)]; simp only [seq_Unwrap.j0, if_true]
  · rw [if_neg h0]
    by_cases h1 : b > 1099511627776
    · rw [if_pos (.inr h1)]; simp only [seq_Unwrap.j0, h1, decide_true, if_true]
    · rw [if_neg (by omega)]
      simp only [seq_Unwrap.j0, h1, decide_false, Bool.false_eq_true, if_false]
      have e : Int.tmod b 4294967296 % 4294967296 = b % 4294967296 := by rw [Int.tmod_eq_emod_of_nonneg (by omega)]; omega
      have hd := sd_bd s (b % 4294967296)
      rw [e, sq_diff s _ hs (by omega)]
      simp only [Option.bind_some]
      rw [show wrap64 (b + sd s (b % 4294967296)) = b + sd s (b % 4294967296) from by unfold wrap64; omega]
      split <;> rfl

theorem sq_runwrap (b s : Int) (hs : 0 ≤ s ∧ s < 4294967296) (k : Nat) (hk : 4 ≤ k) : patchbayref3_Unwrap.f k b s = some (un b s) := by
  obtain ⟨k, rfl⟩ : ∃ m, k = m + 4 := ⟨k - 4, by omega⟩
  unfold patchbayref3_Unwrap.f un
  rw [sq_in]
  simp only [Option.bind_some]
  by_cases h0 : b < 0 ∨ 1099511627776 < b
  · rw [if_pos h0, if_neg (by simp; omega)]
  · rw [if_neg h0, if_pos (by simp; omega)]
    have e : Int.tdiv b 4294967296 = b / 4294967296 := Int.tdiv_eq_ediv_of_nonneg (by omega)
    have hq : 0 ≤ b / 4294967296 ∧ b / 4294967296 ≤ 256 := by omega
    rw [e]
    obtain ⟨q, hq'⟩ : ∃ q, b / 4294967296 = q := ⟨_, rfl⟩
    have e1 : wrap64 (wrap64 q - 1) = q - 1 := by unfold wrap64; omega
    have key : ∀ j : Int, -2 ≤ j → j ≤ 2 → wrap64 (wrap64 ((q + j) * 4294967296) + wrap64 s) = (q + j) * 4294967296 + s := by intro j _ _; unfold wrap64; omega
    have key2 : ∀ j : Int, -2 ≤ j → j ≤ 2 → wrap64 ((q + j) * 4294967296 + s - b) = (q + j) * 4294967296 + s - b := by intro j _ _; unfold wrap64; omega
    have top : wrap64 (wrap64 q + 1) = q + 1 := by unfold wrap64; omega
    have st0 : wrap64 (q + -1 + 1) = q + 0 := by unfold wrap64; omega
    have st1 : wrap64 (q + 0 + 1) = q + 1 := by unfold wrap64; omega
    have hsd : ∃ j : Int, -1 ≤ j ∧ j ≤ 1 ∧ b + sd s (b % 4294967296) = (q + j) * 4294967296 + s := by
      unfold sd
      by_cases c1 : s - b % 4294967296 + 2147483648 < 0
      · exact ⟨1, by omega, by omega, by omega⟩
      · by_cases c2 : s - b % 4294967296 + 2147483648 < 4294967296
        · exact ⟨0, by omega, by omega, by omega⟩
        · exact ⟨-1, by omega, by omega, by omega⟩
    have hb := sd_bd s (b % 4294967296)
    have one : ∀ (k : Nat) (j : Int), -1 ≤ j → j ≤ 1 → patchbayref3_Unwrap.l0 (k + 1) b s (q + j) =
        if b + sd s (b % 4294967296) = (q + j) * 4294967296 + s then (if b + sd s (b % 4294967296) < 0 then some (0, 10) else some (b + sd s (b % 4294967296), 0)) else patchbayref3_Unwrap.l0 k b s (wrap64 (q + j + 1)) := by
      intro k j h1 h2
      simp only [patchbayref3_Unwrap.l0]
      rw [e, hq', top, if_pos (by omega), key j (by omega) (by omega), key2 j (by omega) (by omega), sq_in]
      simp only [Option.bind_some]
      by_cases hin : b + sd s (b % 4294967296) = (q + j) * 4294967296 + s
      · rw [if_pos hin, if_pos (by simp; omega), hin]
      · rw [if_neg hin]
        have : ¬ (-2147483648 ≤ (q + j) * 4294967296 + s - b ∧ (q + j) * 4294967296 + s - b ≤ 2147483647) := by
          obtain ⟨i, hi1, hi2, hi⟩ := hsd
          intro hh; apply hin
          omega
        rw [if_neg (by simp; omega)]
    rw [hq', e1, show q - 1 = q + -1 from by omega]
    rw [show k + 4 = (k + 3) + 1 from rfl, one _ _ (by omega) (by omega), st0, show k + 3 = (k + 2) + 1 from rfl, one _ _ (by omega) (by omega), st1, show k + 2 = (k + 1) + 1 from rfl, one _ _ (by omega) (by omega)]
    obtain ⟨i, hi1, hi2, hi⟩ := hsd
    generalize b + sd s (b % 4294967296) = z at *
    by_cases d1 : z = (q + -1) * 4294967296 + s
    · rw [if_pos d1]; split <;> rfl
    · rw [if_neg d1]
      by_cases d2 : z = (q + 0) * 4294967296 + s
      · rw [if_pos d2]; split <;> rfl
      · rw [if_neg d2]
        have d3 : z = (q + 1) * 4294967296 + s := by omega
        rw [if_pos d3]; split <;> rfl

theorem sq_fact : patchbaylaw3_seqFact.f = some true := by decide +kernel

end Go.Proofs.Ytjiiejeldgkdiaa.Pure
