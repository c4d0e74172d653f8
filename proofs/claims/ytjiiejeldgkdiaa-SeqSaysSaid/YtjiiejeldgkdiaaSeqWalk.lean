/- Proved: SeqSays, called with any two 32-bit numbers and any two ints, returns true and changes nothing that was there. No condition. -/
import Derived.Test.YtjiiejeldgkdiaaSeqPlain
set_option linter.unusedVariables false
set_option linter.unusedSimpArgs false
namespace Go.Proofs.Ytjiiejeldgkdiaa.Pure
open Go.RowKit Go.Proofs.Ytjiiejeldgkdiaa.PSeqSays Go.Proofs.YtjiiejeldgkdiaaW.PrintWords Go.Proofs.YtjiiejeldgkdiaaW.PrintLast

theorem fact_c (w : World) : Calls Try.prog 10 #[] w fun e w' => e = .returned (.bool true) ∧ Drawn0 w w' := patchbaylaw3_seqFact.calls true w sq_fact
theorem round_c (n : Int) (w : World) (h : -9223372036854775808 ≤ n ∧ n ≤ 9223372036854775807) :
    Calls Try.prog 14 #[.int .i64 n] w fun e w' => e = .returned (.int .i64 (n % 4294967296)) ∧ Drawn0 w w' := patchbayref3_Round.calls n _ w (sq_round n h)
theorem diff_c (a b : Int) (w : World) (ha : 0 ≤ a ∧ a < 4294967296) (hb : 0 ≤ b ∧ b < 4294967296) :
    Calls Try.prog 16 #[.int .u32 a, .int .u32 b] w fun e w' => e = .returned (.int .i64 (sd a b)) ∧ Drawn0 w w' := seq_Diff.calls a b _ w (sq_diff a b ha hb)
theorem rdiff_c (a b : Int) (w : World) (ha : 0 ≤ a ∧ a < 4294967296) (hb : 0 ≤ b ∧ b < 4294967296) :
    Calls Try.prog 17 #[.int .u32 a, .int .u32 b] w fun e w' => e = .returned (.int .i64 (sd a b)) ∧ Drawn0 w w' := patchbayref3_Diff.calls a b _ w (sq_rdiff a b ha hb)
theorem dist_c (a b : Int) (w : World) (ha : 0 ≤ a ∧ a < 4294967296) (hb : 0 ≤ b ∧ b < 4294967296) :
    Calls Try.prog 13 #[.int .u32 a, .int .u32 b] w fun e w' => e = .returned (.int .i64 ((a - b) % 4294967296)) ∧ Drawn0 w w' := patchbayref3_Dist.calls a b _ w (sq_dist a b ha hb)
theorem add_c (a n : Int) (w : World) :
    Calls Try.prog 15 #[.int .u32 a, .int .i64 n] w fun e w' => e = .returned (.int .u32 ((a + n % 4294967296) % 4294967296)) ∧ Drawn0 w w' := seq_Add.calls a n _ w rfl
theorem unwrap_c (b s : Int) (w : World) (hs : 0 ≤ s ∧ s < 4294967296) :
    Calls Try.prog 11 #[.int .i64 b, .int .u32 s] w fun e w' => e = .returned (.tuple #[.int .i64 (un b s).1, .int .i64 (un b s).2]) ∧ Drawn0 w w' := seq_Unwrap.calls 1 b s _ _ w (sq_unwrap b s hs 1 (by omega))
theorem runwrap_c (b s : Int) (w : World) (hs : 0 ≤ s ∧ s < 4294967296) :
    Calls Try.prog 12 #[.int .i64 b, .int .u32 s] w fun e w' => e = .returned (.tuple #[.int .i64 (un b s).1, .int .i64 (un b s).2]) ∧ Drawn0 w w' := patchbayref3_Unwrap.calls 4 b s _ _ w (sq_runwrap b s hs 4 (by omega))
theorem less_c (a b : Int) (w : World) (ha : 0 ≤ a ∧ a < 4294967296) (hb : 0 ≤ b ∧ b < 4294967296) :
    Calls Try.prog 18 #[.int .u32 a, .int .u32 b] w fun e w' => e = .returned (.bool (decide (sd a b < 0))) ∧ Drawn0 w w' := seq_Less.calls a b _ w (by unfold seq_Less.f; rw [sq_diff a b ha hb]; rfl)
theorem in_c (a b n : Int) (w : World) :
    Calls Try.prog 19 #[.int .u32 a, .int .u32 b, .int .i64 n] w fun e w' => e = .returned (.bool (decide ((a - b) % 4294967296 < n))) ∧ Drawn0 w w' := seq_In.calls a b n _ w rfl

set_option maxHeartbeats 1000000 in
set_option maxRecDepth 100000 in
theorem seqSays_walk (a b n base : Int) (w : World) (ha : 0 ≤ a ∧ a < 4294967296) (hb : 0 ≤ b ∧ b < 4294967296) (hn : -9223372036854775808 ≤ n ∧ n ≤ 9223372036854775807) :
    Calls Try.prog 3 #[.int .u32 a, .int .u32 b, .int .i64 n, .int .i64 base] w fun e w' => e = .returned (.bool true) ∧ Drawn0 w w' := by
  obtain ⟨x, hx⟩ : ∃ x, un base a = x := ⟨_, rfl⟩
  have U := fun w => unwrap_c base a w ha
  have V := fun w => runwrap_c base a w ha
  rw [hx] at U V
  clear hx
  obtain ⟨x, e⟩ := x
  have HU := Aside0.mk U
  have HV := Aside0.mk V
  clear U V
  have Ha := Aside0.mk ha
  have Hb := Aside0.mk hb
  have Hn := Aside0.mk hn
  have b1 := ha.1
  have b2 := ha.2
  have b3 := hb.1
  have b4 := hb.2
  have b5 := hn.1
  have b6 := hn.2
  clear ha hb hn
  have key : decide ((a - b) % 4294967296 < n) = if 0 < n then (if 4294967295 < n then true else decide ((a - b) % 4294967296 < n)) else false := by
    by_cases h0 : 0 < n
    · rw [if_pos h0]
      by_cases h1 : 4294967295 < n
      · rw [if_pos h1]; exact decide_eq_true (by omega)
      · rw [if_neg h1]
    · rw [if_neg h0]; exact decide_eq_false (by omega)
  have K := Aside0.mk key
  clear key
  have sum : ((a + n % 4294967296) % 4294967296 == (a + n % 4294967296) % 4294967296) = true := beq_self_eq_true _
  by_cases h0 : 0 < n
  · by_cases h1 : 4294967295 < n
    all_goals
      have H0 := Aside0.mk h0
      have H1 := Aside0.mk h1
      go_enter Try.func3, Try.ntmps3
      go_wp2_with (first
        | (go_at_call 10; refine (fact_c _).mono ?_; rintro e w' ⟨rfl, ⟨nd, rfl⟩⟩)
        | (go_at_call 11; refine (HU.out _).mono ?_; rintro e w' ⟨rfl, ⟨nd, rfl⟩⟩)
        | (go_at_call 12; refine (HV.out _).mono ?_; rintro e w' ⟨rfl, ⟨nd, rfl⟩⟩)
        | (go_at_call 13; refine (dist_c _ _ _ Ha.out Hb.out).mono ?_; rintro e w' ⟨rfl, ⟨nd, rfl⟩⟩)
        | (go_at_call 14; refine (round_c _ _ (by omega)).mono ?_; rintro e w' ⟨rfl, ⟨nd, rfl⟩⟩)
        | (go_at_call 15; refine (add_c _ _ _).mono ?_; rintro e w' ⟨rfl, ⟨nd, rfl⟩⟩)
        | (go_at_call 16; refine (diff_c _ _ _ Ha.out Hb.out).mono ?_; rintro e w' ⟨rfl, ⟨nd, rfl⟩⟩)
        | (go_at_call 17; refine (rdiff_c _ _ _ Ha.out Hb.out).mono ?_; rintro e w' ⟨rfl, ⟨nd, rfl⟩⟩)
        | (go_at_call 18; refine (less_c _ _ _ Ha.out Hb.out).mono ?_; rintro e w' ⟨rfl, ⟨nd, rfl⟩⟩)
        | (go_at_call 19; refine (in_c _ _ _ _).mono ?_; rintro e w' ⟨rfl, ⟨nd, rfl⟩⟩))
      all_goals
        go_ret
        exact ⟨by first | rfl | (simp; done) | (simp; intro _; omega) | (simp; omega), by repeat (first | exact Drawn0.refl _ | apply Drawn0.step)⟩
  · have H0 := Aside0.mk h0
    go_enter Try.func3, Try.ntmps3
    go_wp2_with (first
      | (go_at_call 10; refine (fact_c _).mono ?_; rintro e w' ⟨rfl, ⟨nd, rfl⟩⟩)
      | (go_at_call 11; refine (HU.out _).mono ?_; rintro e w' ⟨rfl, ⟨nd, rfl⟩⟩)
      | (go_at_call 12; refine (HV.out _).mono ?_; rintro e w' ⟨rfl, ⟨nd, rfl⟩⟩)
      | (go_at_call 13; refine (dist_c _ _ _ Ha.out Hb.out).mono ?_; rintro e w' ⟨rfl, ⟨nd, rfl⟩⟩)
      | (go_at_call 14; refine (round_c _ _ (by omega)).mono ?_; rintro e w' ⟨rfl, ⟨nd, rfl⟩⟩)
      | (go_at_call 15; refine (add_c _ _ _).mono ?_; rintro e w' ⟨rfl, ⟨nd, rfl⟩⟩)
      | (go_at_call 16; refine (diff_c _ _ _ Ha.out Hb.out).mono ?_; rintro e w' ⟨rfl, ⟨nd, rfl⟩⟩)
      | (go_at_call 17; refine (rdiff_c _ _ _ Ha.out Hb.out).mono ?_; rintro e w' ⟨rfl, ⟨nd, rfl⟩⟩)
      | (go_at_call 18; refine (less_c _ _ _ Ha.out Hb.out).mono ?_; rintro e w' ⟨rfl, ⟨nd, rfl⟩⟩)
      | (go_at_call 19; refine (in_c _ _ _ _).mono ?_; rintro e w' ⟨rfl, ⟨nd, rfl⟩⟩))
    all_goals
      go_ret
      exact ⟨by first | rfl | (simp; done) | (simp; intro _; omega) | (simp; omega), by repeat (first | exact Drawn0.refl _ | apply Drawn0.step)⟩

end Go.Proofs.Ytjiiejeldgkdiaa.Pure
