/- Proved: what conn.Step does in any world that holds the table of transitions: it finds the first row of the table with the state and the event. The table's cells are the one condition. -/
import Derived.Test.YtjfjkgjaibnjeaaDoorTabs
import Derived.LoopTactic
namespace Go.Proofs.YtjfjkgjaibnjeaaDoor.PConnSays
open Go.RowKit Go.Proofs.YtjfjkgjaibnjeaaDoorW.PrintWords Go.Proofs.YtjfjkgjaibnjeaaDoorW.PrintLast Go.Proofs.YtjfjkgjaibnjeaaDoorW.PrintMore
set_option linter.unusedVariables false
set_option linter.unusedSimpArgs false
def hit (s e : Int) (r : Int × Int × Int × Int) : Bool := decide (r.1 = s) && decide (r.2.1 = e)
def fnd (s e : Int) (l : List (Int × Int × Int × Int)) : Int × Int × Int :=
  match l.find? (hit s e) with
  | some r => (r.2.2.1, r.2.2.2, 0)
  | none => (0, 0, 7)
def conn_Step.v (s e : Int) : Int × Int × Int := if s < 0 ∨ s > 10 ∨ e < 0 ∨ e > 9 then (0, 0, 1) else fnd s e R
theorem R_len : R.length = 39 := by decide
theorem rv_drop (k : Nat) (h : k < 39) : R.drop k = rv k :: R.drop (k + 1) := by
  unfold rv
  rw [List.drop_eq_getElem_cons (by rw [R_len]; exact h)]
  simp [List.getD, R_len, h]
theorem fnd_hit (s e : Int) (k : Nat) (h : k < 39) (h1 : (rv k).1 = s) (h2 : (rv k).2.1 = e) : fnd s e (R.drop k) = ((rv k).2.2.1, (rv k).2.2.2, 0) := by
  unfold fnd
  rw [rv_drop k h, List.find?_cons_of_pos (by unfold hit; simp [h1, h2])]
theorem fnd_miss (s e : Int) (k : Nat) (h : k < 39) (h1 : ¬ ((rv k).1 = s ∧ (rv k).2.1 = e)) : fnd s e (R.drop k) = fnd s e (R.drop (k + 1)) := by
  unfold fnd
  rw [rv_drop k h, List.find?_cons_of_neg (by unfold hit; simpa using h1)]
theorem fnd_end (s e : Int) : fnd s e (R.drop 39) = (0, 0, 7) := by
  unfold fnd; rw [List.drop_eq_nil_of_le (by rw [R_len]; omega)]; rfl
def StepPost (w : World) (s e : Int) (x : Ending) (w' : World) : Prop := x = .returned (.tuple #[.int .i64 (conn_Step.v s e).1, .int .i64 (conn_Step.v s e).2.1, .int .i64 (conn_Step.v s e).2.2]) ∧ Below w.heap.size w w'
theorem check_ok (s : Int) (h : 0 ≤ s ∧ s ≤ 10) : conn_Check.f s = some 0 := by unfold conn_Check.f; rw [if_neg (by omega), if_neg (by omega)]
theorem check_no (s : Int) (h : s < 0 ∨ s > 10) : conn_Check.f s = some 1 := by
  unfold conn_Check.f
  by_cases h1 : s < 0
  · rw [if_pos h1]
  · rw [if_neg h1, if_pos (by omega)]
theorem Tab_below {w w' : World} {b : Nat} (hb : Below b w w') (h0 : 0 < b) (hT : Tab w) : Tab w' := by
  intro j v hv
  rw [hb.cell (p := ⟨0, j, none⟩) h0]
  exact hT j v hv
theorem Tab_pos {w : World} (hT : Tab w) : 0 < w.heap.size := by
  have h := hT 0 (.int .i64 0) rfl
  rcases Nat.lt_or_ge 0 w.heap.size with h1 | h1
  · exact h1
  · exfalso
    have e : w.heap[0]? = none := by
      rw [Array.getElem?_eq_none_iff]; omega
    simp [World.cell?, e] at h
def StepRel (w : World) (s e : Int) (i : Value) (wr : World) : Prop := ∃ k : Nat, k ≤ 39 ∧ i = .int .i64 k ∧ fnd s e R = fnd s e (R.drop k) ∧ Below w.heap.size w wr
theorem StepRel.next {w wr : World} {s e : Int} {k : Nat} (h : k < 39) (hr : fnd s e R = fnd s e (R.drop k)) (hm : ¬ ((rv k).1 = s ∧ (rv k).2.1 = e)) (hb : Below w.heap.size w wr) (i : Value) (hi : i = .int .i64 ((k : Int) + 1)) : StepRel w s e i wr :=
  ⟨k + 1, by omega, by rw [hi]; rfl, hr.trans (fnd_miss s e k h hm), hb⟩
theorem step_ret {w wr : World} {s e : Int} {k : Nat} (hv : conn_Step.v s e = fnd s e R) (h : k < 39) (hr : fnd s e R = fnd s e (R.drop k)) (h1 : (rv k).1 = s) (h2 : (rv k).2.1 = e) (hb : Below w.heap.size w wr) (x : Ending) (hx : x = .returned (.tuple #[.int .i64 (rv k).2.2.1, .int .i64 (rv k).2.2.2, .int .i64 0])) : StepPost w s e x wr := by
  have : conn_Step.v s e = ((rv k).2.2.1, (rv k).2.2.2, 0) := by rw [hv, hr, fnd_hit s e k h h1 h2]
  exact ⟨by rw [this]; exact hx, hb⟩
theorem step_none {w wr : World} {s e : Int} (hv : conn_Step.v s e = fnd s e R) (hr : fnd s e R = fnd s e (R.drop 39)) (hb : Below w.heap.size w wr) : StepPost w s e (.returned (.tuple #[.int .i64 0, .int .i64 0, .int .i64 7])) wr := by
  have : conn_Step.v s e = (0, 0, 7) := by rw [hv, hr, fnd_end]
  exact ⟨by rw [this], hb⟩
set_option maxHeartbeats 4000000 in
set_option maxRecDepth 100000 in
theorem step_in (s e : Int) (w : World) (hT : Tab w) (hs : 0 ≤ s ∧ s ≤ 10) (he : 0 ≤ e ∧ e ≤ 9) : Calls Tryd.prog 7 #[.int .i64 s, .int .i64 e] w (StepPost w s e) := by
  have hv : conn_Step.v s e = fnd s e R := by unfold conn_Step.v; rw [if_neg (by omega)]
  have HV := Aside0.mk hv
  clear hv
  have hch := check_ok s hs
  have HC := Aside0.mk hch
  clear hch
  have HT := Aside0.mk hT
  clear hT
  have d1 : decide (e < 0) = false := decide_eq_false (by omega)
  have d2 : decide (9 < e) = false := decide_eq_false (by omega)
  go_enter Tryd.func7, Tryd.ntmps7
  go_wp2_with (first | (go_at_call 8; (with_reducible refine (conn_Check.calls s 0 _ HC.out).mono ?_); rintro e' w' ⟨rfl, hd⟩) | (with_reducible refine wpList_load_tab rfl _ rfl rfl ?_ ?_))
  · exact Tab_below hd.below (Tab_pos HT.out) HT.out
  have HB := Aside0.mk hd.below
  clear hd
  have HS := Aside0.mk hs
  have HE := Aside0.mk he
  clear hs he
  go_loopw [23] (fun i wr => StepRel w s e i wr) (fun i _ => 39 - (intOf i).toNat)
  case atStart => exact ⟨0, by omega, rfl, by rw [List.drop_zero], HB.out⟩
  case round =>
    obtain ⟨k, hk, rfl, hr, hb⟩ := hrel
    have HR := Aside0.mk hr
    clear hr
    have HBB := Aside0.mk hb
    clear hb
    by_cases hlt : k < 39
    · have hx := ix k hlt
      have H1 : Aside0 ((rv k).1 = (rv k).1) := Aside0.mk rfl
      generalize hx0 : (rv k).1 = x0 at hx
      generalize hx1 : (rv k).2.1 = x1 at hx
      generalize hx2 : (rv k).2.2.1 = x2 at hx
      generalize hx3 : (rv k).2.2.2 = x3 at hx
      have X0 := Aside0.mk hx0
      have X1 := Aside0.mk hx1
      have X2 := Aside0.mk hx2
      have X3 := Aside0.mk hx3
      clear hx0 hx1 hx2 hx3 H1
      have dlt : decide ((k : Int) < 39) = true := decide_eq_true (by omega)
      by_cases q0 : x0 = s
      · by_cases q1 : x1 = e
        · have Q0 := Aside0.mk q0
          have Q1 := Aside0.mk q1
          have b0 : (x0 == s) = true := beq_iff_eq.mpr q0
          have b1 : (x1 == e) = true := beq_iff_eq.mpr q1
          clear q0 q1
          go_wp2
          go_quiet (fail)
          go_wp2
          go_ret3
          exact step_ret HV.out hlt HR.out (X0.out.trans Q0.out) (X1.out.trans Q1.out) (by repeat (first | exact HBB.out | apply pw_below_drewN | apply below_drew1 | apply below_alloc)) _ (by rw [X2.out, X3.out]; rfl)
        · have Q1 := Aside0.mk q1
          have b0 : (x0 == s) = true := beq_iff_eq.mpr q0
          have b1 : (x1 == e) = false := beq_eq_false_iff_ne.mpr q1
          clear q0 q1
          go_wp2
          go_roundw
          case rel => exact StepRel.next hlt HR.out (by rw [X0.out, X1.out]; exact fun q => Q1.out q.2) (by repeat (first | exact HBB.out | apply pw_below_drewN | apply below_drew1 | apply below_alloc)) _ (by first | rfl | go_num)
          case measure => simp [intOf]; omega
      · have Q0 := Aside0.mk q0
        have b0 : (x0 == s) = false := beq_eq_false_iff_ne.mpr q0
        clear q0
        go_wp2
        go_roundw
        case rel => exact StepRel.next hlt HR.out (by rw [X0.out, X1.out]; exact fun q => Q0.out q.1) (by repeat (first | exact HBB.out | apply pw_below_drewN | apply below_drew1 | apply below_alloc)) _ (by first | rfl | go_num)
        case measure => simp [intOf]; omega
    · obtain rfl : k = 39 := by omega
      go_wp2
      go_ret3
      exact step_none HV.out HR.out HBB.out
theorem step_out (s e : Int) (w : World) (h : s < 0 ∨ s > 10 ∨ e < 0 ∨ e > 9) : Calls Tryd.prog 7 #[.int .i64 s, .int .i64 e] w (StepPost w s e) := by
  have hv : conn_Step.v s e = (0, 0, 1) := by unfold conn_Step.v; rw [if_pos h]
  have HV : StepPost w s e = fun x w' => x = .returned (.tuple #[.int .i64 0, .int .i64 0, .int .i64 1]) ∧ Below w.heap.size w w' := by unfold StepPost; rw [hv]
  rw [HV]
  clear HV hv
  by_cases h1 : s < 0 ∨ s > 10
  · have hch := check_no s h1
    have HC := Aside0.mk hch
    clear hch
    go_enter Tryd.func7, Tryd.ntmps7
    go_wp2_with (go_at_call 8; (with_reducible refine (conn_Check.calls s 1 _ HC.out).mono ?_); rintro e' w' ⟨rfl, hd⟩)
    go_ret3
    exact ⟨rfl, hd.below⟩
  · have hch := check_ok s (by omega)
    have HC := Aside0.mk hch
    clear hch
    by_cases h2 : e < 0
    · have d1 : decide (e < 0) = true := decide_eq_true h2
      go_enter Tryd.func7, Tryd.ntmps7
      go_wp2_with (go_at_call 8; (with_reducible refine (conn_Check.calls s 0 _ HC.out).mono ?_); rintro e' w' ⟨rfl, hd⟩)
      go_ret3
      exact ⟨rfl, hd.below⟩
    · have d1 : decide (e < 0) = false := decide_eq_false h2
      have d2 : decide (9 < e) = true := decide_eq_true (by omega)
      go_enter Tryd.func7, Tryd.ntmps7
      go_wp2_with (go_at_call 8; (with_reducible refine (conn_Check.calls s 0 _ HC.out).mono ?_); rintro e' w' ⟨rfl, hd⟩)
      go_ret3
      exact ⟨rfl, hd.below⟩
theorem step_any (s e : Int) (w : World) (hT : Tab w) : Calls Tryd.prog 7 #[.int .i64 s, .int .i64 e] w (StepPost w s e) := by
  by_cases h : s < 0 ∨ s > 10 ∨ e < 0 ∨ e > 9
  · exact step_out s e w h
  · exact step_in s e w hT (by omega) (by omega)
end Go.Proofs.YtjfjkgjaibnjeaaDoor.PConnSays
