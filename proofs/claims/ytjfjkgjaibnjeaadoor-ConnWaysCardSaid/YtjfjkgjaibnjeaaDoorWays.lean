/- Proved: ConnWays returns true in any world that holds the table of transitions. The table's cells are the one condition. -/
import Derived.Test.YtjfjkgjaibnjeaaDoorWay
import Derived.Test.YtjfjkgjaibnjeaaDoorWaysP
namespace Go.Proofs.YtjfjkgjaibnjeaaDoor.PConnWays
open Go.RowKit Go.Proofs.YtjfjkgjaibnjeaaDoorW.PrintWords Go.Proofs.YtjfjkgjaibnjeaaDoorW.PrintLast Go.Proofs.YtjfjkgjaibnjeaaDoorW.PrintMore
open Go.Proofs.YtjfjkgjaibnjeaaDoor.PConnSays (Tab Tab_below Tab_pos fact_true bt WayRow wayV WayPost way_in way_out wayV_some)
set_option linter.unusedVariables false
set_option linter.unusedSimpArgs false
theorem in_yes (a b c : Int) (h : b ≤ a ∧ a ≤ c) : patchbayref3_In.f a b c = some true := by unfold patchbayref3_In.f; rw [if_pos (by omega), decide_eq_true h.2]
theorem in_no (a b c : Int) (h : ¬ (b ≤ a ∧ a ≤ c)) : patchbayref3_In.f a b c = some false := by
  unfold patchbayref3_In.f
  by_cases h1 : a ≥ b
  · rw [if_pos h1, decide_eq_false (by omega)]
  · rw [if_neg h1]
theorem ints_l (l : List Int) (hl : l.length ≤ 1000) (d : Nat) : ∀ (k i : Nat), i + d = l.length → d < k → patchbayref3_Ints.l0 k l l i = some true := by
  induction d with
  | zero =>
    intro k i hi hk
    obtain ⟨k, rfl⟩ : ∃ q, k = q + 1 := ⟨k - 1, by omega⟩
    rw [patchbayref3_Ints.l0, if_neg (by omega)]
  | succ d ih =>
    intro k i hi hk
    obtain ⟨k, rfl⟩ : ∃ q, k = q + 1 := ⟨k - 1, by omega⟩
    rw [patchbayref3_Ints.l0, if_pos (by omega), if_pos (by omega), if_pos (by omega), if_pos rfl, show wrap64 ((i : Int) + 1) = ((i + 1 : Nat) : Int) from by rw [w64 (by omega)]; omega]
    exact ih k (i + 1) (by omega) (by omega)
theorem ints_v (l : List Int) (hl : l.length ≤ 1000) : patchbayref3_Ints.f 1001 l l = some true := by
  unfold patchbayref3_Ints.f
  rw [if_pos rfl]
  exact ints_l l hl l.length 1001 0 (by omega) (by omega)
theorem way_C {B : Nat} {w : World} {A : Option Addr} {c : Nat} {l : List Int} (h : WayRow B w (.slice A l.length c) l) (hl : l.length ≤ 1000) : Kd.C (Kd.int .i64) w A l.length l := by
  refine ⟨rfl, by omega, fun hn => ?_⟩
  obtain ⟨ad, rfl, hc⟩ := q_cells h hn
  refine ⟨ad, rfl, fun j p hp => ⟨[.int .i64 p], rfl, rfl, fun i u hu => ?_⟩⟩
  cases i with
  | zero =>
    simp only [List.getElem?_cons_zero, Option.some.injEq] at hu
    subst hu
    have := hc j (.int .i64 p) (by rw [List.getElem?_map, hp]; rfl)
    have e : j * (Kd.int .i64).sz + 0 = j := by show j * 1 + 0 = j; omega
    rw [e]
    exact this
  | succ i => simp at hu
theorem way_move {B : Nat} {w w1 : World} {v : Value} {l : List Int} (h : WayRow B w v l) (hb : Below w.heap.size w w1) : WayRow B w1 v l := q_move h (fun k he => hb.block k (q_lt h k he))
set_option maxHeartbeats 4000000 in
set_option maxRecDepth 100000 in
theorem ways_a (f t : Int) (w : World) (hT : Tab w) (hf : ¬ (0 ≤ f ∧ f ≤ 10)) : Calls Tryd.prog 4 #[.int .i64 f, .int .i64 t] w fun q w' => q = .returned (.bool true) ∧ Below w.heap.size w w' := by
  have HT := Aside0.mk hT
  clear hT
  have HI := Aside0.mk (in_no f 0 10 hf)
  have HF := Aside0.mk hf
  clear hf
  go_enter Tryd.func4, Tryd.ntmps4
  go_wp2_with (first | (go_at_call 5; (with_reducible refine (fact_true _ HT.out).mono ?_); rintro e' w1 ⟨rfl, hb1⟩; have HB1 := Aside0.mk hb1; clear hb1) | (go_at_call 10; (with_reducible refine (way_out f t _ (.inl HF.out)).mono ?_); rintro e' w2 ⟨rfl, hb2⟩; have HB2 := Aside0.mk (bt HB1.out hb2); clear hb2) | (go_at_call 6; (with_reducible refine (patchbayref3_In.calls f 0 10 false _ HI.out).mono ?_); rintro e' w3 ⟨rfl, hd3⟩; have HB3 := Aside0.mk (bt HB2.out hd3.below); clear hd3))
  go_ret
  exact ⟨rfl, HB3.out⟩
set_option maxHeartbeats 4000000 in
set_option maxRecDepth 100000 in
theorem ways_b (f t : Int) (w : World) (hT : Tab w) (hf : 0 ≤ f ∧ f ≤ 10) (ht : ¬ (0 ≤ t ∧ t ≤ 10)) : Calls Tryd.prog 4 #[.int .i64 f, .int .i64 t] w fun q w' => q = .returned (.bool true) ∧ Below w.heap.size w w' := by
  have HT := Aside0.mk hT
  clear hT
  have HI := Aside0.mk (in_yes f 0 10 hf)
  have HJ := Aside0.mk (in_no t 0 10 ht)
  have HF := Aside0.mk ht
  clear hf ht
  go_enter Tryd.func4, Tryd.ntmps4
  go_wp2_with (first | (go_at_call 5; (with_reducible refine (fact_true _ HT.out).mono ?_); rintro e' w1 ⟨rfl, hb1⟩; have HB1 := Aside0.mk hb1; clear hb1) | (go_at_call 10; (with_reducible refine (way_out f t _ (.inr HF.out)).mono ?_); rintro e' w2 ⟨rfl, hb2⟩; have HB2 := Aside0.mk (bt HB1.out hb2); clear hb2) | (go_at_call 6; (with_reducible refine (patchbayref3_In.calls f 0 10 true _ HI.out).mono ?_); rintro e' w3 ⟨rfl, hd3⟩; have HB3 := Aside0.mk (bt HB2.out hd3.below); clear hd3) | (go_at_call 6; (with_reducible refine (patchbayref3_In.calls t 0 10 false _ HJ.out).mono ?_); rintro e' w4 ⟨rfl, hd4⟩; have HB4 := Aside0.mk (bt HB3.out hd4.below); clear hd4))
  go_ret
  exact ⟨rfl, HB4.out⟩
def WaysRel (w : World) (f t : Nat) (v : Value) (l : List Int) (n : Nat) (v7 : Value) (wr : World) : Prop := ∃ m : Nat, m + n = 8 ∧ v7 = .int .i64 m ∧ fst7 f t m n = fst7 f t 0 8 ∧ WayRow w.heap.size wr v l ∧ Below w.heap.size w wr
theorem same_at (f t : Nat) (hf : f < 11) (ht : t < 11) (l : List Int) (h : wayV f t = some l) : ∃ m, fst7 f t 0 8 = some (m, l) ∧ l.length ≤ 20 := by
  have := same_all ⟨t, ht⟩ ⟨f, hf⟩
  unfold same at this
  simp only [h] at this
  split at this
  · rename_i m l1 l2 h1 h2
    injection h2 with h2
    subst h2
    rw [Bool.and_eq_true, decide_eq_true_eq, decide_eq_true_eq] at this
    obtain ⟨rfl, h3⟩ := this
    exact ⟨m, h1, h3⟩
  · cases this
set_option maxHeartbeats 4000000 in
set_option maxRecDepth 100000 in
theorem ways_c (f t : Nat) (hf : f < 11) (ht : t < 11) (w : World) (hT : Tab w) : Calls Tryd.prog 4 #[.int .i64 f, .int .i64 t] w fun q w' => q = .returned (.bool true) ∧ Below w.heap.size w w' := by
  have HT := Aside0.mk hT
  clear hT
  have HI := Aside0.mk (in_yes f 0 10 (by omega))
  have HJ := Aside0.mk (in_yes t 0 10 (by omega))
  go_enter Tryd.func4, Tryd.ntmps4
  go_wp2_with (first | (go_at_call 5; (with_reducible refine (fact_true _ HT.out).mono ?_); rintro e' w1 ⟨rfl, hb1⟩; have HB1 := Aside0.mk hb1; clear hb1) | (go_at_call 10; (with_reducible refine (way_in f t hf ht _ (Tab_below HB1.out (Tab_pos HT.out) HT.out)).mono ?_); rintro e' w2 ⟨l, v, hwv, rfl, hrow, hb2⟩; obtain ⟨Av, cv, rfl, hvc⟩ := q_slice hrow; have HWV := Aside0.mk hwv; have HROW := Aside0.mk (q_lower hrow HB1.out.size); have HB2 := Aside0.mk (bt HB1.out hb2); clear hb2 hrow hwv) | (go_at_call 6; (with_reducible refine (patchbayref3_In.calls f 0 10 true _ HI.out).mono ?_); rintro e' w3 ⟨rfl, hd3⟩; have HB3 := Aside0.mk (bt HB2.out hd3.below); have HR3 := Aside0.mk (way_move HROW.out hd3.below); clear hd3) | (go_at_call 6; (with_reducible refine (patchbayref3_In.calls t 0 10 true _ HJ.out).mono ?_); rintro e' w4 ⟨rfl, hd4⟩; have HB4 := Aside0.mk (bt HB3.out hd4.below); have HR4 := Aside0.mk (way_move HR3.out hd4.below); clear hd4))
  go_loopg [7] 8 (fun n v7 wr => WaysRel w f t (.slice Av l.length cv) l n v7 wr)
  case atStart => exact ⟨0, rfl, rfl, rfl, HR4.out, HB4.out⟩
  case round =>
    obtain ⟨m, hm, rfl, hgo, hrow, hb⟩ := hrel
    obtain ⟨m0, hsm, hl20⟩ := same_at f t hf ht l HWV.out
    rw [hsm] at hgo
    have HROW5 := Aside0.mk hrow
    have HB5 := Aside0.mk hb
    have HSM := Aside0.mk hsm
    clear hrow hb hsm
    obtain ⟨n, rfl⟩ : ∃ n, gk = n + 1 := by
      cases gk with
      | zero => simp [fst7] at hgo
      | succ n => exact ⟨n, rfl⟩
    have hm7 : m ≤ 7 := by omega
    have dlt : decide ((m : Int) ≤ 7) = true := decide_eq_true (by omega)
    obtain ⟨r1, r2, hr⟩ : ∃ r1 r2, (dp t m).getD f ([], false) = (r1, r2) := ⟨_, _, rfl⟩
    have HW := Aside0.mk (way_v t ht m 1000 f (by omega) (by omega) hf)
    rw [hr] at HW
    rw [fst7, hr] at hgo
    cases r2
    · have HGO := Aside0.mk hgo
      have HM := Aside0.mk hm
      clear hgo hr hm
      go_wp2_with (go_at_call 11; (with_reducible refine (patchbayref3_ConnWay.calls 1000 f t m r1 false _ HW.out).mono ?_); rintro e' w6 ⟨v6, rfl, hr6, hb6⟩; have HB6 := Aside0.mk hb6; clear hb6 hr6)
      go_roundg n
      case measure => omega
      case rel => exact ⟨m + 1, by have := HM.out; omega, rfl, HGO.out.trans HSM.out.symm, way_move HROW5.out HB6.out, bt HB5.out HB6.out⟩
    · rw [if_pos rfl] at hgo
      injection hgo with hgo
      injection hgo with hgo1 hgo2
      simp only at hgo2
      subst hgo2
      have HC1 := Aside0.mk (way_C HROW5.out (by omega))
      have HINT := Aside0.mk (ints_v r1 (by omega))
      clear hgo1 hr
      go_wp2_with (first | (go_at_call 11; (with_reducible refine (patchbayref3_ConnWay.calls 1000 f t m r1 true _ HW.out).mono ?_); rintro e' w6 ⟨v6, rfl, hr6, hb6⟩; obtain ⟨A6, c6, rfl, hc6, hC6⟩ := Kd.R_reads hr6; have HB6 := Aside0.mk hb6; have HC6 := Aside0.mk hC6; clear hb6 hr6 hC6) | (go_at_call 12; (with_reducible refine (patchbayref3_Ints.calls 1001 Av cv r1 A6 c6 r1 true _ (Kd.C_below HC1.out HB6.out) hvc HC6.out hc6 HINT.out).mono ?_); rintro e' w7 ⟨rfl, hd7⟩; have HB7 := Aside0.mk hd7.below; clear hd7))
      go_ret
      exact ⟨rfl, bt (bt HB5.out HB6.out) HB7.out⟩
theorem ways_any (f t : Int) (w : World) (hT : Tab w) : Calls Tryd.prog 4 #[.int .i64 f, .int .i64 t] w fun q w' => q = .returned (.bool true) ∧ Below w.heap.size w w' := by
  by_cases hf : 0 ≤ f ∧ f ≤ 10
  · by_cases ht : 0 ≤ t ∧ t ≤ 10
    · obtain ⟨f, rfl⟩ : ∃ n : Nat, f = n := ⟨f.toNat, by omega⟩
      obtain ⟨t, rfl⟩ : ∃ n : Nat, t = n := ⟨t.toNat, by omega⟩
      exact ways_c f t (by omega) (by omega) w hT
    · exact ways_b f t w hT hf ht
  · exact ways_a f t w hT hf
end Go.Proofs.YtjfjkgjaibnjeaaDoor.PConnWays
