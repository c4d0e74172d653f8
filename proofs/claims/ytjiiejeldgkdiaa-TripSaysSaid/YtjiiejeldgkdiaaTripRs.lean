/- Proved: what the reference's TripSample returns, as a walk of its code. No condition. -/
import Derived.Test.YtjiiejeldgkdiaaTripFns
set_option linter.unusedVariables false
set_option linter.unusedSimpArgs false
namespace Go.Proofs.Ytjiiejeldgkdiaa.PTripSays
open Go.RowKit Go.Proofs.YtjiiejeldgkdiaaW.PrintWords Go.Proofs.YtjiiejeldgkdiaaW.PrintLast Go.Proofs.YtjiiejeldgkdiaaW.PrintMore
def patchbayref3_TripSample.f (a0_0 : Bool) (a0_1 : Int) (a0_2 : Int) (a0_3 : Int) (a1 : Int) : Option (Bool × Int × Int × Int) := if a0_0 = true then (if a1 > (wrap64 (Int.tdiv a0_1 8)) then (some (true, wrap64 ((wrap64 (a0_1 - (wrap64 (Int.tdiv a0_1 8)))) + a1), wrap64 ((wrap64 ((wrap64 (a0_2 - (wrap64 (Int.tdiv a0_2 4)))) + a1)) - (wrap64 (Int.tdiv a0_1 8))), 0)) else (some (true, wrap64 ((wrap64 (a0_1 - (wrap64 (Int.tdiv a0_1 8)))) + a1), wrap64 ((wrap64 ((wrap64 (a0_2 - (wrap64 (Int.tdiv a0_2 4)))) + (wrap64 (Int.tdiv a0_1 8)))) - a1), 0))) else (some (true, wrap64 (8 * a1), wrap64 (2 * a1), 0))
set_option maxHeartbeats 2000000 in
set_option maxRecDepth 100000 in
theorem patchbayref3_TripSample.calls (a0_0 : Bool) (a0_1 : Int) (a0_2 : Int) (a0_3 : Int) (a1 : Int) (r1 : Bool) (r2 : Int) (r3 : Int) (r4 : Int) (w : World) (h : patchbayref3_TripSample.f a0_0 a0_1 a0_2 a0_3 a1 = some (r1, r2, r3, r4)) :
    Calls Try.prog 27 #[.agg #[.bool a0_0, .int .i64 a0_1, .int .i64 a0_2, .int .i64 a0_3], .int .i64 a1] w fun e w' => e = .returned (.agg #[.bool r1, .int .i64 r2, .int .i64 r3, .int .i64 r4]) ∧ Below w.heap.size w w' := by
  unfold patchbayref3_TripSample.f at h
  cases a0_0
  · simp only [Bool.false_eq_true, if_false, Option.some.injEq, Prod.mk.injEq] at h
    obtain ⟨rfl, rfl, rfl, rfl⟩ := h
    go_enter Try.func27, Try.ntmps27
    go_wp2
    exact bodyPost_ret (v := .agg #[.bool true, .int .i64 (wrap64 (8 * a1)), .int .i64 (wrap64 (2 * a1)), .int .i64 0]) (by simp [results, Try.results27, go_sem]) rfl ⟨rfl, by repeat (first | exact Below.refl _ _ | refine Below.setCell ?_ (by simp) _ | refine below_alloc ?_ _ | refine Below.drew ?_)⟩
  · simp only [if_true] at h
    by_cases c4 : a1 > (wrap64 (Int.tdiv a0_1 8))
    · rw [if_pos c4] at h
      simp only [Option.some.injEq, Prod.mk.injEq] at h
      obtain ⟨rfl, rfl, rfl, rfl⟩ := h
      have c := decide_eq_true c4
      clear c4
      go_enter Try.func27, Try.ntmps27
      go_wp2
      exact bodyPost_ret (v := .agg #[.bool true, .int .i64 (wrap64 ((wrap64 (a0_1 - (wrap64 (Int.tdiv a0_1 8)))) + a1)), .int .i64 (wrap64 ((wrap64 ((wrap64 (a0_2 - (wrap64 (Int.tdiv a0_2 4)))) + a1)) - (wrap64 (Int.tdiv a0_1 8)))), .int .i64 0]) (by simp [results, Try.results27, go_sem]) rfl ⟨rfl, by repeat (first | exact Below.refl _ _ | refine Below.setCell ?_ (by simp) _ | refine below_alloc ?_ _ | refine Below.drew ?_)⟩
    · rw [if_neg c4] at h
      simp only [Option.some.injEq, Prod.mk.injEq] at h
      obtain ⟨rfl, rfl, rfl, rfl⟩ := h
      have c := decide_eq_false c4
      clear c4
      go_enter Try.func27, Try.ntmps27
      go_wp2
      exact bodyPost_ret (v := .agg #[.bool true, .int .i64 (wrap64 ((wrap64 (a0_1 - (wrap64 (Int.tdiv a0_1 8)))) + a1)), .int .i64 (wrap64 ((wrap64 ((wrap64 (a0_2 - (wrap64 (Int.tdiv a0_2 4)))) + (wrap64 (Int.tdiv a0_1 8)))) - a1)), .int .i64 0]) (by simp [results, Try.results27, go_sem]) rfl ⟨rfl, by repeat (first | exact Below.refl _ _ | refine Below.setCell ?_ (by simp) _ | refine below_alloc ?_ _ | refine Below.drew ?_)⟩
end Go.Proofs.Ytjiiejeldgkdiaa.PTripSays
