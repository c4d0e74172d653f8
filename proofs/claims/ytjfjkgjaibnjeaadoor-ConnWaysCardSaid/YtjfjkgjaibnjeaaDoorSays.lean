/- Proved: ConnSays returns true in any world that holds the table of transitions. The table's cells are the one condition. -/
import Derived.Test.YtjfjkgjaibnjeaaDoorStep
namespace Go.Proofs.YtjfjkgjaibnjeaaDoor.PConnSays
open Go.RowKit Go.Proofs.YtjfjkgjaibnjeaaDoorW.PrintWords Go.Proofs.YtjfjkgjaibnjeaaDoorW.PrintLast Go.Proofs.YtjfjkgjaibnjeaaDoorW.PrintMore
set_option linter.unusedVariables false
set_option linter.unusedSimpArgs false
theorem bt {w w1 w2 : World} (h : Below w.heap.size w w1) (h2 : Below w1.heap.size w1 w2) : Below w.heap.size w w2 := h.trans (h2.mono h.size)
theorem step_eq {s e x y z : Int} {w : World} (hT : Tab w) (hv : conn_Step.v s e = (x, y, z)) : Calls Tryd.prog 7 #[.int .i64 s, .int .i64 e] w fun q w' => q = .returned (.tuple #[.int .i64 x, .int .i64 y, .int .i64 z]) ∧ Below w.heap.size w w' := by
  have := step_any s e w hT
  unfold StepPost at this
  rw [hv] at this
  exact this
theorem in_yes (a b c : Int) (h : b ≤ a ∧ a ≤ c) : patchbayref3_In.f a b c = some true := by unfold patchbayref3_In.f; rw [if_pos (by omega), decide_eq_true h.2]
theorem in_no (a b c : Int) (h : ¬ (b ≤ a ∧ a ≤ c)) : patchbayref3_In.f a b c = some false := by
  unfold patchbayref3_In.f
  by_cases h1 : a ≥ b
  · rw [if_pos h1, decide_eq_false (by omega)]
  · rw [if_neg h1]
set_option maxRecDepth 100000 in
theorem fact_true (w : World) (hT : Tab w) : Calls Tryd.prog 5 #[] w fun q w' => q = .returned (.bool true) ∧ Below w.heap.size w w' := by
  have HT := Aside0.mk hT
  clear hT
  have hv : conn_Step.v 4 7 = (7, 16, 0) := by decide
  have HV := Aside0.mk hv
  clear hv
  go_enter Tryd.func5, Tryd.ntmps5
  go_wp2_with (go_at_call 7; (with_reducible refine (step_eq HT.out HV.out).mono ?_); rintro e' w' ⟨rfl, hb⟩)
  go_ret
  exact ⟨rfl, hb⟩
/-- What the reference and the table say of one state and one event. -/
def agree (s e : Int) : Bool := match patchbayref3_ConnStep.f 5 s e with
  | some (x, y, ok) => decide (conn_Step.v s e = if ok then (x, y, 0) else (0, 0, 7))
  | none => false
theorem agree_all : ∀ s : Fin 11, ∀ e : Fin 10, agree (s.val : Int) (e.val : Int) = true := by decide +kernel
theorem agree_at (s e : Int) (hs : 0 ≤ s ∧ s ≤ 10) (he : 0 ≤ e ∧ e ≤ 9) : ∃ x y ok, patchbayref3_ConnStep.f 5 s e = some (x, y, ok) ∧ conn_Step.v s e = if ok then (x, y, 0) else (0, 0, 7) := by
  have h := agree_all ⟨s.toNat, by omega⟩ ⟨e.toNat, by omega⟩
  simp only [show ((s.toNat : Nat) : Int) = s from by omega, show ((e.toNat : Nat) : Int) = e from by omega] at h
  unfold agree at h
  split at h
  · rename_i x y ok hq
    exact ⟨x, y, ok, hq, of_decide_eq_true h⟩
  · cases h
set_option maxHeartbeats 4000000 in
set_option maxRecDepth 100000 in
theorem says_a (s e : Int) (w : World) (hT : Tab w) (hs : ¬ (0 ≤ s ∧ s ≤ 10)) : Calls Tryd.prog 3 #[.int .i64 s, .int .i64 e] w fun q w' => q = .returned (.bool true) ∧ Below w.heap.size w w' := by
  have HT := Aside0.mk hT
  clear hT
  have HV := Aside0.mk (show conn_Step.v s e = (0, 0, 1) from by unfold conn_Step.v; rw [if_pos (by omega)])
  have HI := Aside0.mk (in_no s 0 10 hs)
  have HC := Aside0.mk (check_no s (by omega))
  clear hs
  go_enter Tryd.func3, Tryd.ntmps3
  go_wp2_with (first | (go_at_call 5; (with_reducible refine (fact_true _ HT.out).mono ?_); rintro e' w1 ⟨rfl, hb1⟩; have HB1 := Aside0.mk hb1; clear hb1) | (go_at_call 6; (with_reducible refine (patchbayref3_In.calls s 0 10 false _ HI.out).mono ?_); rintro e' w2 ⟨rfl, hd2⟩; have HB2 := Aside0.mk (bt HB1.out hd2.below); clear hd2) | (go_at_call 7; (with_reducible refine (step_eq (Tab_below HB2.out (Tab_pos HT.out) HT.out) HV.out).mono ?_); rintro e' w3 ⟨rfl, hb3⟩; have HB3 := Aside0.mk (bt HB2.out hb3); clear hb3) | (go_at_call 8; (with_reducible refine (conn_Check.calls s 1 _ HC.out).mono ?_); rintro e' w4 ⟨rfl, hd4⟩; have HB4 := Aside0.mk (bt HB3.out hd4.below); clear hd4))
  go_ret
  exact ⟨rfl, HB4.out⟩
set_option maxHeartbeats 4000000 in
set_option maxRecDepth 100000 in
theorem says_b (s e : Int) (w : World) (hT : Tab w) (hs : 0 ≤ s ∧ s ≤ 10) (he : ¬ (0 ≤ e ∧ e ≤ 9)) : Calls Tryd.prog 3 #[.int .i64 s, .int .i64 e] w fun q w' => q = .returned (.bool true) ∧ Below w.heap.size w w' := by
  have HT := Aside0.mk hT
  clear hT
  have HV := Aside0.mk (show conn_Step.v s e = (0, 0, 1) from by unfold conn_Step.v; rw [if_pos (by omega)])
  have HI := Aside0.mk (in_yes s 0 10 hs)
  have HJ := Aside0.mk (in_no e 0 9 he)
  have HC := Aside0.mk (check_ok s hs)
  clear hs he
  go_enter Tryd.func3, Tryd.ntmps3
  go_wp2_with (first | (go_at_call 5; (with_reducible refine (fact_true _ HT.out).mono ?_); rintro e' w1 ⟨rfl, hb1⟩; have HB1 := Aside0.mk hb1; clear hb1) | (go_at_call 6; (with_reducible refine (patchbayref3_In.calls s 0 10 true _ HI.out).mono ?_); rintro e' w2 ⟨rfl, hd2⟩; have HB2 := Aside0.mk (bt HB1.out hd2.below); clear hd2) | (go_at_call 7; (with_reducible refine (step_eq (Tab_below HB2.out (Tab_pos HT.out) HT.out) HV.out).mono ?_); rintro e' w3 ⟨rfl, hb3⟩; have HB3 := Aside0.mk (bt HB2.out hb3); clear hb3) | (go_at_call 6; (with_reducible refine (patchbayref3_In.calls e 0 9 false _ HJ.out).mono ?_); rintro e' w4 ⟨rfl, hd4⟩; have HB4 := Aside0.mk (bt HB3.out hd4.below); clear hd4) | (go_at_call 8; (with_reducible refine (conn_Check.calls s 0 _ HC.out).mono ?_); rintro e' w5 ⟨rfl, hd5⟩; have HB5 := Aside0.mk (bt HB4.out hd5.below); clear hd5))
  go_ret
  exact ⟨rfl, HB5.out⟩
set_option maxHeartbeats 4000000 in
set_option maxRecDepth 100000 in
theorem says_c (s e x y : Int) (w : World) (hT : Tab w) (hs : 0 ≤ s ∧ s ≤ 10) (he : 0 ≤ e ∧ e ≤ 9) (hr : patchbayref3_ConnStep.f 5 s e = some (x, y, true)) (hv : conn_Step.v s e = (x, y, 0)) : Calls Tryd.prog 3 #[.int .i64 s, .int .i64 e] w fun q w' => q = .returned (.bool true) ∧ Below w.heap.size w w' := by
  have HT := Aside0.mk hT
  clear hT
  have HI := Aside0.mk (in_yes s 0 10 hs)
  have HJ := Aside0.mk (in_yes e 0 9 he)
  have HC := Aside0.mk (check_ok s hs)
  have HR := Aside0.mk hr
  have HV := Aside0.mk hv
  clear hs he hr hv
  go_enter Tryd.func3, Tryd.ntmps3
  go_wp2_with (first | (go_at_call 5; (with_reducible refine (fact_true _ HT.out).mono ?_); rintro e' w1 ⟨rfl, hb1⟩; have HB1 := Aside0.mk hb1; clear hb1) | (go_at_call 6; (with_reducible refine (patchbayref3_In.calls s 0 10 true _ HI.out).mono ?_); rintro e' w2 ⟨rfl, hd2⟩; have HB2 := Aside0.mk (bt HB1.out hd2.below); clear hd2) | (go_at_call 7; (with_reducible refine (step_eq (Tab_below HB2.out (Tab_pos HT.out) HT.out) HV.out).mono ?_); rintro e' w3 ⟨rfl, hb3⟩; have HB3 := Aside0.mk (bt HB2.out hb3); clear hb3) | (go_at_call 6; (with_reducible refine (patchbayref3_In.calls e 0 9 true _ HJ.out).mono ?_); rintro e' w4 ⟨rfl, hd4⟩; have HB4 := Aside0.mk (bt HB3.out hd4.below); clear hd4) | (go_at_call 9; (with_reducible refine (patchbayref3_ConnStep.calls 5 s e x y true _ HR.out).mono ?_); rintro e' w5 ⟨rfl, hd5⟩; have HB5 := Aside0.mk (bt HB4.out hd5.below); clear hd5) | (go_at_call 8; (with_reducible refine (conn_Check.calls s 0 _ HC.out).mono ?_); rintro e' w6 ⟨rfl, hd6⟩; have HB6 := Aside0.mk (bt HB5.out hd6.below); clear hd6))
  go_ret
  exact ⟨rfl, HB6.out⟩
set_option maxHeartbeats 4000000 in
set_option maxRecDepth 100000 in
theorem says_d (s e x y : Int) (w : World) (hT : Tab w) (hs : 0 ≤ s ∧ s ≤ 10) (he : 0 ≤ e ∧ e ≤ 9) (hr : patchbayref3_ConnStep.f 5 s e = some (x, y, false)) (hv : conn_Step.v s e = (0, 0, 7)) : Calls Tryd.prog 3 #[.int .i64 s, .int .i64 e] w fun q w' => q = .returned (.bool true) ∧ Below w.heap.size w w' := by
  have HT := Aside0.mk hT
  clear hT
  have HI := Aside0.mk (in_yes s 0 10 hs)
  have HJ := Aside0.mk (in_yes e 0 9 he)
  have HC := Aside0.mk (check_ok s hs)
  have HR := Aside0.mk hr
  have HV := Aside0.mk hv
  clear hs he hr hv
  go_enter Tryd.func3, Tryd.ntmps3
  go_wp2_with (first | (go_at_call 5; (with_reducible refine (fact_true _ HT.out).mono ?_); rintro e' w1 ⟨rfl, hb1⟩; have HB1 := Aside0.mk hb1; clear hb1) | (go_at_call 6; (with_reducible refine (patchbayref3_In.calls s 0 10 true _ HI.out).mono ?_); rintro e' w2 ⟨rfl, hd2⟩; have HB2 := Aside0.mk (bt HB1.out hd2.below); clear hd2) | (go_at_call 7; (with_reducible refine (step_eq (Tab_below HB2.out (Tab_pos HT.out) HT.out) HV.out).mono ?_); rintro e' w3 ⟨rfl, hb3⟩; have HB3 := Aside0.mk (bt HB2.out hb3); clear hb3) | (go_at_call 6; (with_reducible refine (patchbayref3_In.calls e 0 9 true _ HJ.out).mono ?_); rintro e' w4 ⟨rfl, hd4⟩; have HB4 := Aside0.mk (bt HB3.out hd4.below); clear hd4) | (go_at_call 9; (with_reducible refine (patchbayref3_ConnStep.calls 5 s e x y false _ HR.out).mono ?_); rintro e' w5 ⟨rfl, hd5⟩; have HB5 := Aside0.mk (bt HB4.out hd5.below); clear hd5) | (go_at_call 8; (with_reducible refine (conn_Check.calls s 0 _ HC.out).mono ?_); rintro e' w6 ⟨rfl, hd6⟩; have HB6 := Aside0.mk (bt HB5.out hd6.below); clear hd6))
  go_ret
  exact ⟨rfl, HB6.out⟩
theorem says_any (s e : Int) (w : World) (hT : Tab w) : Calls Tryd.prog 3 #[.int .i64 s, .int .i64 e] w fun q w' => q = .returned (.bool true) ∧ Below w.heap.size w w' := by
  by_cases hs : 0 ≤ s ∧ s ≤ 10
  · by_cases he : 0 ≤ e ∧ e ≤ 9
    · obtain ⟨x, y, ok, hr, hv⟩ := agree_at s e hs he
      cases ok
      · exact says_d s e x y w hT hs he hr hv
      · exact says_c s e x y w hT hs he hr hv
    · exact says_b s e w hT hs he
  · exact says_a s e w hT hs
end Go.Proofs.YtjfjkgjaibnjeaaDoor.PConnSays
