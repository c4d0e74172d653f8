/- Proved: what the flags of a segment are by bits and by remainders. No condition beside the bounds named. -/
import Derived.Laws.BitsLemmas
import Derived.RowKit
set_option linter.unusedVariables false
namespace Go.Proofs.Ytjiiejeldgkdiaa.SegBits
open Go Go.RowKit

theorem bv_parts (a b : BitVec 64) (h : a &&& ~~~b = 0#64) : a = a &&& b := by
  ext i hi
  have := congrArg (fun x => x.getLsbD i) h
  simp at this
  simp
  intro ha
  have h2 := this
  simp [BitVec.getLsbD_eq_getElem hi, ha] at h2
  simpa [hi] using h2

theorem small24 : ∀ n : Nat, n < 24 → ((n &&& 23 = n) ↔ n / 8 % 2 = 0) := by decide

theorem and_le (n : Nat) : n &&& 23 ≤ 23 := Nat.and_le_right

theorem ofInt_nat (n : Nat) (h : n < 18446744073709551616) : (BitVec.ofInt 64 (n : Int)).toNat = n := by
  simp [BitVec.ofInt_natCast, BitVec.toNat_ofNat]; omega

theorem wrap_nat (n : Nat) (h : n < 9223372036854775808) : IntKind.i64.wrap (n : Int) = n := by
  rw [IntKind.wrap_i64]; omega

/-- The flags have no other bits than 1, 2, 4 and 16. -/
theorem andNot23 (x : Int) (h0 : -9223372036854775808 ≤ x) (h1 : x ≤ 9223372036854775807) : (bits .andNot .i64 x 23 = 0) ↔ ((0 ≤ x ∧ x ≤ 23) ∧ x / 8 % 2 = 0) := by
  constructor
  · intro h
    have hz : BitVec.ofInt 64 x &&& ~~~(BitVec.ofInt 64 23) = 0#64 := by
      have hw : ∀ r : BitVec 64, IntKind.i64.wrap (r.toNat : Int) = 0 → r = 0#64 := by
        intro r hr
        rw [IntKind.wrap_i64] at hr
        have := r.isLt
        apply BitVec.eq_of_toNat_eq
        simp
        omega
      exact hw _ h
    have hp := bv_parts _ _ hz
    have hn := congrArg BitVec.toNat hp
    rw [BitVec.toNat_and] at hn
    have e23 : (BitVec.ofInt 64 23).toNat = 23 := by decide
    rw [e23] at hn
    have hle := and_le (BitVec.ofInt 64 x).toNat
    have hx : ((BitVec.ofInt 64 x).toNat : Int) = x % 18446744073709551616 := by
      rw [BitVec.toNat_ofInt]
      omega
    have hs := (small24 _ (by omega)).1 hn.symm
    omega
  · rintro ⟨⟨a, b⟩, c⟩
    obtain ⟨n, rfl⟩ := Int.eq_ofNat_of_zero_le a
    have hs : ∀ n : Nat, n < 24 → n / 8 % 2 = 0 → bits .andNot .i64 (n : Int) 23 = 0 := by decide +kernel
    exact hs n (by omega) (by omega)

theorem and_cases (m : Int) (f : Int → Prop) [DecidablePred f] (h : ∀ n : Nat, n < 24 → f n) (x : Int) (h0 : 0 ≤ x) (h1 : x ≤ 23) : f x := by
  obtain ⟨n, rfl⟩ := Int.eq_ofNat_of_zero_le h0
  exact h n (by omega)

theorem and1 (x : Int) (h0 : 0 ≤ x) (h1 : x ≤ 23) : bits .and .i64 x 1 = x % 2 := and_cases 0 (fun x => bits .and .i64 x 1 = x % 2) (by decide +kernel) x h0 h1
theorem and2 (x : Int) (h0 : 0 ≤ x) (h1 : x ≤ 23) : bits .and .i64 x 2 = x / 2 % 2 * 2 := and_cases 0 (fun x => bits .and .i64 x 2 = x / 2 % 2 * 2) (by decide +kernel) x h0 h1
theorem and4 (x : Int) (h0 : 0 ≤ x) (h1 : x ≤ 23) : bits .and .i64 x 4 = x / 4 % 2 * 4 := and_cases 0 (fun x => bits .and .i64 x 4 = x / 4 % 2 * 4) (by decide +kernel) x h0 h1
theorem and16 (x : Int) (h0 : 0 ≤ x) (h1 : x ≤ 23) : bits .and .i64 x 16 = x / 16 * 16 := and_cases 0 (fun x => bits .and .i64 x 16 = x / 16 * 16) (by decide +kernel) x h0 h1

end Go.Proofs.Ytjiiejeldgkdiaa.SegBits
