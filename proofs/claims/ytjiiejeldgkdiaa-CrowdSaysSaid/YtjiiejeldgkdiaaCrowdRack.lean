/- Proved: what the reference's CrowdAck returns, as a walk of its code. No condition. -/
import Derived.Test.YtjiiejeldgkdiaaPCrowdSaysx0
import Derived.Test.YtjiiejeldgkdiaaPCrowdSaysx2
namespace Go.Proofs.Ytjiiejeldgkdiaa.PCrowdSays
open Go.RowKit Go.Proofs.YtjiiejeldgkdiaaW.PrintWords Go.Proofs.YtjiiejeldgkdiaaW.PrintLast Go.Proofs.YtjiiejeldgkdiaaW.PrintMore
set_option linter.unusedVariables false
set_option linter.unusedSimpArgs false
theorem sc_dn (w : World) (n : Nat) (a : Addr) (v : Value) : (w.drewN n).setCell a v = (w.setCell a v).drewN n := rfl
attribute [local go_sem] sc_dn
/-! ### patchbayref3_CrowdAck: function 36 -/
def patchbayref3_CrowdAck.j0 : Nat → Int → Int → Int → Int → Int → Int → Bool → Int → Option (Int × Int × Int × Int × Bool × Int × Bool)
  | 0, _, _, _, _, _, _, _, _ => none
  | k + 1, x1, x2, x119000, x119001, x119002, x119003, x119004, x119005 => if (wrap64 (x119002 + x2)) ≥ x119000 then ((patchbayref3_cap16.f (wrap64 (x119000 + x1))).bind fun t129 => ((patchbayref3_cap16.f (wrap64 ((wrap64 (x119002 + x2)) - x119000))).bind fun t130 => (some (t129, x119001, t130, x119003, x119004, x119005, false)))) else ((patchbayref3_cap16.f (wrap64 (x119002 + x2))).bind fun t131 => (some (x119000, x119001, t131, x119003, x119004, x119005, false)))
def patchbayref3_CrowdAck.f (k : Nat) (a0_0 : Int) (a0_1 : Int) (a0_2 : Int) (a0_3 : Int) (a0_4 : Bool) (a0_5 : Int) (a1 : Int) (a2 : Int) (a3 : Int) (a4 : Int) : Option (Int × Int × Int × Int × Bool × Int × Bool) := if a2 = 0 then (if a0_4 = true then ((patchbayref3_cap16.f (wrap64 (a0_0 + a1))).bind fun t120 => (some (t120, a0_1, a0_2, a0_3, a0_4, a0_5, false))) else (if a0_3 < 2 then (some (a0_0, a0_1, a0_2, wrap64 (a0_3 + 1), a0_4, a0_5, false)) else ((patchbayref3_Diff.f a4 a3).bind fun t121 => ((patchbayref3_Half.f a1 t121).bind fun t122 => ((patchbayref3_cap16.f (wrap64 (t122 + (wrap64 (3 * a1))))).bind fun t123 => (some (t123, t122, 0, 0, true, a4, true))))))) else (if a0_4 = true then ((patchbayref3_Diff.f a3 a0_5).bind fun t124 => (if t124 ≥ 0 then (some (a0_1, a0_1, 0, 0, false, a0_5, false)) else (if a2 > a0_0 then ((patchbayref3_cap16.f (wrap64 ((wrap64 (a0_0 - a0_0)) + a1))).bind fun t125 => (some (t125, a0_1, a0_2, a0_3, a0_4, a0_5, true))) else ((patchbayref3_cap16.f (wrap64 ((wrap64 (a0_0 - a2)) + a1))).bind fun t126 => (some (t126, a0_1, a0_2, a0_3, a0_4, a0_5, true)))))) else (if a0_0 < a0_1 then (if a2 > a1 then ((patchbayref3_cap16.f (wrap64 (a0_0 + a1))).bind fun t127 => (some (t127, a0_1, a0_2, 0, a0_4, a0_5, false))) else ((patchbayref3_cap16.f (wrap64 (a0_0 + a2))).bind fun t128 => (some (t128, a0_1, a0_2, 0, a0_4, a0_5, false)))) else (if a2 > a0_0 then (patchbayref3_CrowdAck.j0 k a1 a0_0 a0_0 a0_1 a0_2 0 a0_4 a0_5) else (patchbayref3_CrowdAck.j0 k a1 a2 a0_0 a0_1 a0_2 0 a0_4 a0_5))))
theorem patchbayref3_CrowdAck.mono_l : ∀ k, (∀ y0 y1 y2 y3 y4 y5 y6 y7, LeO (patchbayref3_CrowdAck.j0 k y0 y1 y2 y3 y4 y5 y6 y7) (patchbayref3_CrowdAck.j0 (k + 1) y0 y1 y2 y3 y4 y5 y6 y7))
  | 0 => fun _ _ _ _ _ _ _ _ r h => by simp [patchbayref3_CrowdAck.j0] at h
  | k + 1 => by
    have ih0 := patchbayref3_CrowdAck.mono_l k
    · intro y0 y1 y2 y3 y4 y5 y6 y7
      unfold patchbayref3_CrowdAck.j0
      repeat' first
      | (with_reducible exact ih0 _ _ _ _ _ _ _ _)
      | (with_reducible exact LeO.refl _)
      | (with_reducible exact LeO.none _)
      | (with_reducible refine LeO.ite ?_ ?_)
      | (with_reducible refine LeO.bind ?_ (fun _ => ?_))
      | exact ih0 _ _ _ _ _ _ _ _
      | exact LeO.none _
      | refine LeO.ite ?_ ?_
      | refine LeO.bind ?_ (fun _ => ?_)
theorem patchbayref3_CrowdAck.mono : ∀ a0 a1 a2 a3 a4 a5 a6 a7 a8 a9 k, LeO (patchbayref3_CrowdAck.f k a0 a1 a2 a3 a4 a5 a6 a7 a8 a9) (patchbayref3_CrowdAck.f (k + 1) a0 a1 a2 a3 a4 a5 a6 a7 a8 a9) := by
  intro a0 a1 a2 a3 a4 a5 a6 a7 a8 a9 k
  have ih0 := patchbayref3_CrowdAck.mono_l k
  unfold patchbayref3_CrowdAck.f
  repeat' first
      | (with_reducible exact ih0 _ _ _ _ _ _ _ _)
      | (with_reducible exact LeO.refl _)
      | (with_reducible exact LeO.none _)
      | (with_reducible refine LeO.ite ?_ ?_)
      | (with_reducible refine LeO.bind ?_ (fun _ => ?_))
      | exact ih0 _ _ _ _ _ _ _ _
      | exact LeO.none _
      | refine LeO.ite ?_ ?_
      | refine LeO.bind ?_ (fun _ => ?_)
set_option maxHeartbeats 8000000 in
set_option maxRecDepth 100000 in
theorem patchbayref3_CrowdAck.calls (k : Nat) (a0_0 : Int) (a0_1 : Int) (a0_2 : Int) (a0_3 : Int) (a0_4 : Bool) (a0_5 : Int) (a1 : Int) (a2 : Int) (a3 : Int) (a4 : Int) (r1 : Int) (r2 : Int) (r3 : Int) (r4 : Int) (r5 : Bool) (r6 : Int) (r7 : Bool) (w : World) (h : patchbayref3_CrowdAck.f k a0_0 a0_1 a0_2 a0_3 a0_4 a0_5 a1 a2 a3 a4 = some (r1, r2, r3, r4, r5, r6, r7)) :
    Calls Try.prog 36 #[.agg #[.int .i64 a0_0, .int .i64 a0_1, .int .i64 a0_2, .int .i64 a0_3, .bool a0_4, .int .u32 a0_5], .int .i64 a1, .int .i64 a2, .int .u32 a3, .int .u32 a4] w fun e w' => e = .returned (.tuple #[.agg #[.int .i64 r1, .int .i64 r2, .int .i64 r3, .int .i64 r4, .bool r5, .int .u32 r6], .bool r7]) ∧ Below w.heap.size w w' := by
  unfold patchbayref3_CrowdAck.f at h
  by_cases c1 : a2 = 0
  · rw [if_pos c1] at h
    have e1 : (a2 == 0) = true := beq_iff_eq.mpr c1
    have e2 : (a2 != 0) = false := bne_eq_false_iff_eq.mpr c1
    cases a0_4
    · simp only [Bool.false_eq_true, if_false] at h
      by_cases c2 : a0_3 < 2
      · rw [if_pos c2] at h
        have dc2 : decide (a0_3 < 2) = true := decide_eq_true c2
        simp only [Option.some.injEq, Prod.mk.injEq] at h
        obtain ⟨rfl, rfl, rfl, rfl, rfl, rfl, rfl⟩ := h
        clear c1 c2
        go_enter Try.func36, Try.ntmps36
        go_wp2
        exact bodyPost_ret (v := .tuple #[.agg #[.int .i64 (a0_0), .int .i64 (a0_1), .int .i64 (a0_2), .int .i64 (wrap64 (a0_3 + 1)), .bool false, .int .u32 a0_5], .bool false]) (by simp [results, Try.results36, go_sem]) rfl ⟨rfl, by repeat (first | exact Below.refl _ _ | refine Below.setCell ?_ (by simp) _ | refine below_alloc ?_ _ | apply pw_below_drewN | refine Below.drew ?_)⟩
      · rw [if_neg c2] at h
        have dc2 : decide (a0_3 < 2) = false := decide_eq_false c2
        replace h := Option.bind_eq_some_iff.mp h
        obtain ⟨t121, At121, h⟩ := h
        have Bt121 := Aside0.mk At121
        clear At121
        replace h := Option.bind_eq_some_iff.mp h
        obtain ⟨t122, At122, h⟩ := h
        have Bt122 := Aside0.mk At122
        clear At122
        replace h := Option.bind_eq_some_iff.mp h
        obtain ⟨t123, At123, h⟩ := h
        have Bt123 := Aside0.mk At123
        clear At123
        simp only [Option.some.injEq, Prod.mk.injEq] at h
        obtain ⟨rfl, rfl, rfl, rfl, rfl, rfl, rfl⟩ := h
        clear c1 c2
        go_enter Try.func36, Try.ntmps36
        go_wp2_with (first | (go_at_call 17; refine (patchbayref3_Diff.calls _ _ _ _ Bt121.out).mono ?_; rintro e w' ⟨rfl, ⟨nd, rfl⟩⟩) | (go_at_call 37; refine (patchbayref3_Half.calls _ _ _ _ Bt122.out).mono ?_; rintro e w' ⟨rfl, ⟨nd, rfl⟩⟩) | (go_at_call 73; refine (patchbayref3_cap16.calls _ _ _ Bt123.out).mono ?_; rintro e w' ⟨rfl, ⟨nd, rfl⟩⟩))
        exact bodyPost_ret (v := .tuple #[.agg #[.int .i64 (t123), .int .i64 (t122), .int .i64 (0), .int .i64 (0), .bool true, .int .u32 a4], .bool true]) (by simp [results, Try.results36, go_sem]) rfl ⟨rfl, by repeat (first | exact Below.refl _ _ | refine Below.setCell ?_ (by simp) _ | refine below_alloc ?_ _ | apply pw_below_drewN | refine Below.drew ?_)⟩
    · simp only [if_true] at h
      replace h := Option.bind_eq_some_iff.mp h
      obtain ⟨t120, At120, h⟩ := h
      have Bt120 := Aside0.mk At120
      clear At120
      simp only [Option.some.injEq, Prod.mk.injEq] at h
      obtain ⟨rfl, rfl, rfl, rfl, rfl, rfl, rfl⟩ := h
      clear c1
      go_enter Try.func36, Try.ntmps36
      go_wp2_with (first | (go_at_call 73; refine (patchbayref3_cap16.calls _ _ _ Bt120.out).mono ?_; rintro e w' ⟨rfl, ⟨nd, rfl⟩⟩))
      exact bodyPost_ret (v := .tuple #[.agg #[.int .i64 (t120), .int .i64 (a0_1), .int .i64 (a0_2), .int .i64 (a0_3), .bool true, .int .u32 a0_5], .bool false]) (by simp [results, Try.results36, go_sem]) rfl ⟨rfl, by repeat (first | exact Below.refl _ _ | refine Below.setCell ?_ (by simp) _ | refine below_alloc ?_ _ | apply pw_below_drewN | refine Below.drew ?_)⟩
  · rw [if_neg c1] at h
    have e1 : (a2 == 0) = false := beq_eq_false_iff_ne.mpr c1
    have e2 : (a2 != 0) = true := bne_iff_ne.mpr c1
    cases a0_4
    · simp only [Bool.false_eq_true, if_false] at h
      by_cases c2 : a0_0 < a0_1
      · rw [if_pos c2] at h
        have dc2 : decide (a0_0 < a0_1) = true := decide_eq_true c2
        by_cases c3 : a2 > a1
        · rw [if_pos c3] at h
          have dc3 : decide (a1 < a2) = true := decide_eq_true c3
          replace h := Option.bind_eq_some_iff.mp h
          obtain ⟨t127, At127, h⟩ := h
          have Bt127 := Aside0.mk At127
          clear At127
          simp only [Option.some.injEq, Prod.mk.injEq] at h
          obtain ⟨rfl, rfl, rfl, rfl, rfl, rfl, rfl⟩ := h
          clear c1 c2 c3
          go_enter Try.func36, Try.ntmps36
          go_wp2_with (first | (go_at_call 73; refine (patchbayref3_cap16.calls _ _ _ Bt127.out).mono ?_; rintro e w' ⟨rfl, ⟨nd, rfl⟩⟩))
          exact bodyPost_ret (v := .tuple #[.agg #[.int .i64 (t127), .int .i64 (a0_1), .int .i64 (a0_2), .int .i64 (0), .bool false, .int .u32 a0_5], .bool false]) (by simp [results, Try.results36, go_sem]) rfl ⟨rfl, by repeat (first | exact Below.refl _ _ | refine Below.setCell ?_ (by simp) _ | refine below_alloc ?_ _ | apply pw_below_drewN | refine Below.drew ?_)⟩
        · rw [if_neg c3] at h
          have dc3 : decide (a1 < a2) = false := decide_eq_false c3
          replace h := Option.bind_eq_some_iff.mp h
          obtain ⟨t127, At127, h⟩ := h
          have Bt127 := Aside0.mk At127
          clear At127
          simp only [Option.some.injEq, Prod.mk.injEq] at h
          obtain ⟨rfl, rfl, rfl, rfl, rfl, rfl, rfl⟩ := h
          clear c1 c2 c3
          go_enter Try.func36, Try.ntmps36
          go_wp2_with (first | (go_at_call 73; refine (patchbayref3_cap16.calls _ _ _ Bt127.out).mono ?_; rintro e w' ⟨rfl, ⟨nd, rfl⟩⟩))
          exact bodyPost_ret (v := .tuple #[.agg #[.int .i64 (t127), .int .i64 (a0_1), .int .i64 (a0_2), .int .i64 (0), .bool false, .int .u32 a0_5], .bool false]) (by simp [results, Try.results36, go_sem]) rfl ⟨rfl, by repeat (first | exact Below.refl _ _ | refine Below.setCell ?_ (by simp) _ | refine below_alloc ?_ _ | apply pw_below_drewN | refine Below.drew ?_)⟩
      · rw [if_neg c2] at h
        have dc2 : decide (a0_0 < a0_1) = false := decide_eq_false c2
        by_cases c3 : a2 > a0_0
        · rw [if_pos c3] at h
          have dc3 : decide (a0_0 < a2) = true := decide_eq_true c3
          cases k with
          | zero => simp [patchbayref3_CrowdAck.j0] at h
          | succ k =>
            simp only [patchbayref3_CrowdAck.j0] at h
            by_cases c4 : (wrap64 (a0_2 + a0_0)) ≥ a0_0
            · rw [if_pos c4] at h
              have dc4 : decide (a0_0 ≤ (wrap64 (a0_2 + a0_0))) = true := decide_eq_true c4
              replace h := Option.bind_eq_some_iff.mp h
              obtain ⟨t129, At129, h⟩ := h
              have Bt129 := Aside0.mk At129
              clear At129
              replace h := Option.bind_eq_some_iff.mp h
              obtain ⟨t130, At130, h⟩ := h
              have Bt130 := Aside0.mk At130
              clear At130
              simp only [Option.some.injEq, Prod.mk.injEq] at h
              obtain ⟨rfl, rfl, rfl, rfl, rfl, rfl, rfl⟩ := h
              clear c1 c2 c3 c4
              go_enter Try.func36, Try.ntmps36
              go_wp2_with (first | (go_at_call 73; refine (patchbayref3_cap16.calls (wrap64 (a0_0 + a1)) _ _ Bt129.out).mono ?_; rintro e w' ⟨rfl, ⟨nd, rfl⟩⟩) | (go_at_call 73; refine (patchbayref3_cap16.calls (wrap64 ((wrap64 (a0_2 + a0_0)) - a0_0)) _ _ Bt130.out).mono ?_; rintro e w' ⟨rfl, ⟨nd, rfl⟩⟩))
              exact bodyPost_ret (v := .tuple #[.agg #[.int .i64 (t129), .int .i64 (a0_1), .int .i64 (t130), .int .i64 (0), .bool false, .int .u32 a0_5], .bool false]) (by simp [results, Try.results36, go_sem]) rfl ⟨rfl, by repeat (first | exact Below.refl _ _ | refine Below.setCell ?_ (by simp) _ | refine below_alloc ?_ _ | apply pw_below_drewN | refine Below.drew ?_)⟩
            · rw [if_neg c4] at h
              have dc4 : decide (a0_0 ≤ (wrap64 (a0_2 + a0_0))) = false := decide_eq_false c4
              replace h := Option.bind_eq_some_iff.mp h
              obtain ⟨t131, At131, h⟩ := h
              have Bt131 := Aside0.mk At131
              clear At131
              simp only [Option.some.injEq, Prod.mk.injEq] at h
              obtain ⟨rfl, rfl, rfl, rfl, rfl, rfl, rfl⟩ := h
              clear c1 c2 c3 c4
              go_enter Try.func36, Try.ntmps36
              go_wp2_with (first | (go_at_call 73; refine (patchbayref3_cap16.calls _ _ _ Bt131.out).mono ?_; rintro e w' ⟨rfl, ⟨nd, rfl⟩⟩))
              exact bodyPost_ret (v := .tuple #[.agg #[.int .i64 (a0_0), .int .i64 (a0_1), .int .i64 (t131), .int .i64 (0), .bool false, .int .u32 a0_5], .bool false]) (by simp [results, Try.results36, go_sem]) rfl ⟨rfl, by repeat (first | exact Below.refl _ _ | refine Below.setCell ?_ (by simp) _ | refine below_alloc ?_ _ | apply pw_below_drewN | refine Below.drew ?_)⟩
        · rw [if_neg c3] at h
          have dc3 : decide (a0_0 < a2) = false := decide_eq_false c3
          cases k with
          | zero => simp [patchbayref3_CrowdAck.j0] at h
          | succ k =>
            simp only [patchbayref3_CrowdAck.j0] at h
            by_cases c4 : (wrap64 (a0_2 + a2)) ≥ a0_0
            · rw [if_pos c4] at h
              have dc4 : decide (a0_0 ≤ (wrap64 (a0_2 + a2))) = true := decide_eq_true c4
              replace h := Option.bind_eq_some_iff.mp h
              obtain ⟨t129, At129, h⟩ := h
              have Bt129 := Aside0.mk At129
              clear At129
              replace h := Option.bind_eq_some_iff.mp h
              obtain ⟨t130, At130, h⟩ := h
              have Bt130 := Aside0.mk At130
              clear At130
              simp only [Option.some.injEq, Prod.mk.injEq] at h
              obtain ⟨rfl, rfl, rfl, rfl, rfl, rfl, rfl⟩ := h
              clear c1 c2 c3 c4
              go_enter Try.func36, Try.ntmps36
              go_wp2_with (first | (go_at_call 73; refine (patchbayref3_cap16.calls (wrap64 (a0_0 + a1)) _ _ Bt129.out).mono ?_; rintro e w' ⟨rfl, ⟨nd, rfl⟩⟩) | (go_at_call 73; refine (patchbayref3_cap16.calls (wrap64 ((wrap64 (a0_2 + a2)) - a0_0)) _ _ Bt130.out).mono ?_; rintro e w' ⟨rfl, ⟨nd, rfl⟩⟩))
              exact bodyPost_ret (v := .tuple #[.agg #[.int .i64 (t129), .int .i64 (a0_1), .int .i64 (t130), .int .i64 (0), .bool false, .int .u32 a0_5], .bool false]) (by simp [results, Try.results36, go_sem]) rfl ⟨rfl, by repeat (first | exact Below.refl _ _ | refine Below.setCell ?_ (by simp) _ | refine below_alloc ?_ _ | apply pw_below_drewN | refine Below.drew ?_)⟩
            · rw [if_neg c4] at h
              have dc4 : decide (a0_0 ≤ (wrap64 (a0_2 + a2))) = false := decide_eq_false c4
              replace h := Option.bind_eq_some_iff.mp h
              obtain ⟨t131, At131, h⟩ := h
              have Bt131 := Aside0.mk At131
              clear At131
              simp only [Option.some.injEq, Prod.mk.injEq] at h
              obtain ⟨rfl, rfl, rfl, rfl, rfl, rfl, rfl⟩ := h
              clear c1 c2 c3 c4
              go_enter Try.func36, Try.ntmps36
              go_wp2_with (first | (go_at_call 73; refine (patchbayref3_cap16.calls _ _ _ Bt131.out).mono ?_; rintro e w' ⟨rfl, ⟨nd, rfl⟩⟩))
              exact bodyPost_ret (v := .tuple #[.agg #[.int .i64 (a0_0), .int .i64 (a0_1), .int .i64 (t131), .int .i64 (0), .bool false, .int .u32 a0_5], .bool false]) (by simp [results, Try.results36, go_sem]) rfl ⟨rfl, by repeat (first | exact Below.refl _ _ | refine Below.setCell ?_ (by simp) _ | refine below_alloc ?_ _ | apply pw_below_drewN | refine Below.drew ?_)⟩
    · simp only [if_true] at h
      replace h := Option.bind_eq_some_iff.mp h
      obtain ⟨t124, At124, h⟩ := h
      have Bt124 := Aside0.mk At124
      clear At124
      by_cases c2 : t124 ≥ 0
      · rw [if_pos c2] at h
        have dc2 : decide (0 ≤ t124) = true := decide_eq_true c2
        simp only [Option.some.injEq, Prod.mk.injEq] at h
        obtain ⟨rfl, rfl, rfl, rfl, rfl, rfl, rfl⟩ := h
        clear c1 c2
        go_enter Try.func36, Try.ntmps36
        go_wp2_with (first | (go_at_call 17; refine (patchbayref3_Diff.calls _ _ _ _ Bt124.out).mono ?_; rintro e w' ⟨rfl, ⟨nd, rfl⟩⟩))
        exact bodyPost_ret (v := .tuple #[.agg #[.int .i64 (a0_1), .int .i64 (a0_1), .int .i64 (0), .int .i64 (0), .bool false, .int .u32 a0_5], .bool false]) (by simp [results, Try.results36, go_sem]) rfl ⟨rfl, by repeat (first | exact Below.refl _ _ | refine Below.setCell ?_ (by simp) _ | refine below_alloc ?_ _ | apply pw_below_drewN | refine Below.drew ?_)⟩
      · rw [if_neg c2] at h
        have dc2 : decide (0 ≤ t124) = false := decide_eq_false c2
        by_cases c3 : a2 > a0_0
        · rw [if_pos c3] at h
          have dc3 : decide (a0_0 < a2) = true := decide_eq_true c3
          replace h := Option.bind_eq_some_iff.mp h
          obtain ⟨t125, At125, h⟩ := h
          have Bt125 := Aside0.mk At125
          clear At125
          simp only [Option.some.injEq, Prod.mk.injEq] at h
          obtain ⟨rfl, rfl, rfl, rfl, rfl, rfl, rfl⟩ := h
          clear c1 c2 c3
          replace Bt125 := Aside0.mk (show patchbayref3_cap16.f (wrap64 a1) = some t125 from by have q := Bt125.out; rw [Int.sub_self, show wrap64 0 = 0 from by unfold wrap64; omega, Int.zero_add] at q; exact q)
          go_enter Try.func36, Try.ntmps36
          go_wp2_with (first | (go_at_call 17; refine (patchbayref3_Diff.calls _ _ _ _ Bt124.out).mono ?_; rintro e w' ⟨rfl, ⟨nd, rfl⟩⟩) | (go_at_call 73; refine (patchbayref3_cap16.calls _ _ _ Bt125.out).mono ?_; rintro e w' ⟨rfl, ⟨nd, rfl⟩⟩))
          exact bodyPost_ret (v := .tuple #[.agg #[.int .i64 (t125), .int .i64 (a0_1), .int .i64 (a0_2), .int .i64 (a0_3), .bool true, .int .u32 a0_5], .bool true]) (by simp [results, Try.results36, go_sem]) rfl ⟨rfl, by repeat (first | exact Below.refl _ _ | refine Below.setCell ?_ (by simp) _ | refine below_alloc ?_ _ | apply pw_below_drewN | refine Below.drew ?_)⟩
        · rw [if_neg c3] at h
          have dc3 : decide (a0_0 < a2) = false := decide_eq_false c3
          replace h := Option.bind_eq_some_iff.mp h
          obtain ⟨t125, At125, h⟩ := h
          have Bt125 := Aside0.mk At125
          clear At125
          simp only [Option.some.injEq, Prod.mk.injEq] at h
          obtain ⟨rfl, rfl, rfl, rfl, rfl, rfl, rfl⟩ := h
          clear c1 c2 c3
          go_enter Try.func36, Try.ntmps36
          go_wp2_with (first | (go_at_call 17; refine (patchbayref3_Diff.calls _ _ _ _ Bt124.out).mono ?_; rintro e w' ⟨rfl, ⟨nd, rfl⟩⟩) | (go_at_call 73; refine (patchbayref3_cap16.calls _ _ _ Bt125.out).mono ?_; rintro e w' ⟨rfl, ⟨nd, rfl⟩⟩))
          exact bodyPost_ret (v := .tuple #[.agg #[.int .i64 (t125), .int .i64 (a0_1), .int .i64 (a0_2), .int .i64 (a0_3), .bool true, .int .u32 a0_5], .bool true]) (by simp [results, Try.results36, go_sem]) rfl ⟨rfl, by repeat (first | exact Below.refl _ _ | refine Below.setCell ?_ (by simp) _ | refine below_alloc ?_ _ | apply pw_below_drewN | refine Below.drew ?_)⟩
end Go.Proofs.Ytjiiejeldgkdiaa.PCrowdSays
