/- Proved: the plain law, third part: Out agrees. -/
import Derived.Test.YtcllcjflgeiehaaBCastS
namespace Go.Proofs.Ytcllcjflgeiehaa.PCastPlays
open Go.RowKit Go.Proofs.YtcllcjflgeiehaaW.PrintWords Go.Proofs.YtcllcjflgeiehaaW.PrintLast Go.Proofs.YtcllcjflgeiehaaW.PrintMore
set_option linter.unusedVariables false
set_option linter.unusedSimpArgs false
theorem oStep_sim {id t : Int} {j : Nat} {o : List S56} {l : List S82} {rp : List Int} (h : Sim l rp) (hj : j < l.length) : Sim (oStep id t j (o, l)).2 rp := by
  unfold oStep
  simp only
  split
  · exact set_sim' h j _ hj (fun q => absurd q (by simp))
  · split
    · exact set_sim' h j _ hj (fun q => rfl)
    · exact h
theorem oRun_sim {id t : Int} {its : List S82} {rp : List Int} (h : Sim its rp) : ∀ j, j ≤ its.length → Sim (oRun id t its j).2 rp
  | 0, _ => h
  | j + 1, hj => oStep_sim (o := (oRun id t its j).1) (oRun_sim h j (by omega)) (by rw [(oRun_len id t its j).1]; omega)
set_option maxHeartbeats 1000000 in
theorem out_round (id t he rd : Int) (rp : List Int) (k j : Nat) (o : List S56) (l : List S82) (h : Sim l rp) (hj : j < l.length) (ho : o.length ≤ 64) (ht : 0 ≤ t ∧ t ≤ 1000000000) :
    patchbayref3_Cast_Out.l0 (k + 2) t o (j : Int) id (l.map (·.f0)) (l.map (·.f4)) (l.map (fun x => decide (0 ≤ x.f3))) (l.map (·.f1)) (l.map (·.f2)) rp he t rd =
    patchbayref3_Cast_Out.l0 k t (oStep id t j (o, l)).1 ((j + 1 : Nat) : Int) id ((oStep id t j (o, l)).2.map (·.f0)) ((oStep id t j (o, l)).2.map (·.f4)) ((oStep id t j (o, l)).2.map (fun x => decide (0 ≤ x.f3))) ((oStep id t j (o, l)).2.map (·.f1)) ((oStep id t j (o, l)).2.map (·.f2)) rp he t rd := by
  have h6 := h.le
  have hrl := h.len
  obtain ⟨x, hx⟩ : ∃ x, item l j = x := ⟨_, rfl⟩
  obtain ⟨x0, x1, x2, x3, x4⟩ := x
  have l0 : (l.map (·.f0)).length = l.length := List.length_map _
  have l4 : (l.map (·.f4)).length = l.length := List.length_map _
  have l3 : (l.map (fun x => decide (0 ≤ x.f3))).length = l.length := List.length_map _
  have l1 : (l.map (·.f1)).length = l.length := List.length_map _
  have l2 : (l.map (·.f2)).length = l.length := List.length_map _
  have e0 : rdOf false (l.map (·.f0)) (j : Int) = x0 := by unfold rdOf; rw [Int.toNat_natCast]; exact (map_rd _ l j _ hj).trans (by rw [hx])
  have e4 : rdOf false (l.map (·.f4)) (j : Int) = x4 := by unfold rdOf; rw [Int.toNat_natCast]; exact (map_rd _ l j _ hj).trans (by rw [hx])
  have e3 : rdOf false (l.map (fun x => decide (0 ≤ x.f3))) (j : Int) = decide (0 ≤ x3) := by unfold rdOf; rw [Int.toNat_natCast]; exact (map_rd _ l j _ hj).trans (by rw [hx])
  have e1 : rdOf ByteArray.empty (l.map (·.f1)) (j : Int) = x1 := by unfold rdOf; rw [Int.toNat_natCast]; exact (map_rd _ l j _ hj).trans (by rw [hx])
  have e2 : Go.Proofs.YtcllcjflgeiehaaW.PrintWords.rd (l.map (·.f2)) (j : Int) = x2 := by unfold Go.Proofs.YtcllcjflgeiehaaW.PrintWords.rd; rw [Int.toNat_natCast]; exact (map_rd _ l j _ hj).trans (by rw [hx])
  have er : 0 ≤ x3 → Go.Proofs.YtcllcjflgeiehaaW.PrintWords.rd rp (j : Int) = x3 := fun q => by
    have := h.rep j hj (by rw [hx]; exact q)
    rw [hx] at this
    unfold Go.Proofs.YtcllcjflgeiehaaW.PrintWords.rd
    rw [Int.toNat_natCast]
    exact this
  have hw : wrap64 ((j : Int) + 1) = ((j + 1 : Nat) : Int) := by rw [w64 (by omega)]; omega
  have HW := Aside0.mk hw
  clear hw
  have g0 := mset_same (·.f0) l j hj x0 (by rw [hx])
  have g1 := mset_same (·.f1) l j hj x1 (by rw [hx])
  have g2 := mset_same (·.f2) l j hj x2 (by rw [hx])
  have g3 := mset_same (fun x => decide (0 ≤ x.f3)) l j hj (decide (0 ≤ x3)) (by rw [hx])
  have g4 := mset_same (·.f4) l j hj x4 (by rw [hx])
  have send : sends ⟨x0, x1, x2, x3, x4⟩ t → patchbayref3_Cast_Out.j1 (k + 1) t o (j : Int) true id (l.map (·.f0)) (l.map (·.f4)) (l.map (fun x => decide (0 ≤ x.f3))) (l.map (·.f1)) (l.map (·.f2)) rp he t rd = patchbayref3_Cast_Out.l0 k t (oStep id t j (o, l)).1 ((j + 1 : Nat) : Int) id ((oStep id t j (o, l)).2.map (·.f0)) ((oStep id t j (o, l)).2.map (·.f4)) ((oStep id t j (o, l)).2.map (fun x => decide (0 ≤ x.f3))) ((oStep id t j (o, l)).2.map (·.f1)) ((oStep id t j (o, l)).2.map (·.f2)) rp he t rd := fun hs => by
    unfold patchbayref3_Cast_Out.j1
    rw [if_pos rfl, if_pos (by omega), if_pos (by rw [l1]; omega), if_pos (by omega), if_pos (by rw [l4]; omega), if_pos (by rw [l3]; omega), HW.out, e1, Int.toNat_natCast, step_send hx hs]
    simp only [List.map_set, g0, g1, g2]
    rfl
  have skip : ¬ sends ⟨x0, x1, x2, x3, x4⟩ t → patchbayref3_Cast_Out.j1 (k + 1) t o (j : Int) false id (l.map (·.f0)) (l.map (·.f4)) (l.map (fun x => decide (0 ≤ x.f3))) (l.map (·.f1)) (l.map (·.f2)) rp he t rd = patchbayref3_Cast_Out.l0 k t (oStep id t j (o, l)).1 ((j + 1 : Nat) : Int) id ((oStep id t j (o, l)).2.map (·.f0)) ((oStep id t j (o, l)).2.map (·.f4)) ((oStep id t j (o, l)).2.map (fun x => decide (0 ≤ x.f3))) ((oStep id t j (o, l)).2.map (·.f1)) ((oStep id t j (o, l)).2.map (·.f2)) rp he t rd := fun hs => by
    unfold patchbayref3_Cast_Out.j1
    rw [if_neg (by simp), if_pos (by omega), if_pos (by rw [l0]; omega), HW.out, e0]
    cases x0 with
    | true => rw [if_pos rfl, step_none hx hs not_asks_a]
    | false =>
      rw [if_neg (by simp), if_pos (by rw [l2]; omega), e2]
      by_cases h2 : x2 ≤ t
      · rw [if_pos h2, if_pos (by omega), Int.toNat_natCast, w64 (by omega), step_ask hx hs ⟨rfl, h2⟩]
        simp only [List.map_set, g0, g1, g3, g4]
      · rw [if_neg h2, step_none hx hs (fun q => h2 q.2)]
  rw [show k + 2 = (k + 1) + 1 from rfl]
  conv => lhs; unfold patchbayref3_Cast_Out.l0
  rw [if_pos (by rw [l0]; omega), if_pos (by omega), if_pos (by rw [l4]; omega), e4]
  cases x4 with
  | true => rw [if_pos rfl]; exact send (.inl rfl)
  | false =>
    rw [if_neg (by simp), e0]
    cases x0 with
    | false => rw [if_neg (by simp)]; exact skip not_sends_b
    | true =>
      rw [if_pos rfl, if_pos (by rw [l3]; omega), e3]
      by_cases h3 : 0 ≤ x3
      · rw [if_pos (decide_eq_true h3), if_pos (by omega), er h3]
        by_cases h4 : x3 ≤ t
        · rw [decide_eq_true h4]; exact send (.inr ⟨rfl, h3, h4⟩)
        · rw [decide_eq_false h4]; exact skip (not_sends_a (.inr (by omega)))
      · rw [if_neg (by simp; omega)]; exact skip (not_sends_a (.inl (by omega)))
def outOk (id : Int) (its : List S82) (he t : Int) : OutR := if id = 0 ∧ 0 < its.length ∧ he ≤ t then ⟨(oRun id t its its.length).2, t + 50, t, (oRun id t its its.length).1 ++ [⟨3, 0, its.length, ⟨#[]⟩⟩], 0⟩ else ⟨(oRun id t its its.length).2, he, t, (oRun id t its its.length).1, 0⟩
def outTup (id : Int) (rp : List Int) (rd : Int) (r : OutR) : Int × List Bool × List Bool × List Bool × List ByteArray × List Int × List Int × Int × Int × Int × List S56 × Int :=
  (id, r.its.map (·.f0), r.its.map (·.f4), r.its.map (fun x => decide (0 ≤ x.f3)), r.its.map (·.f1), r.its.map (·.f2), rp, r.he, r.now, rd, r.out, r.err)
theorem out_l (id t he rd : Int) (its : List S82) (rp : List Int) (h : Sim its rp) (ht : 0 ≤ t ∧ t ≤ 1000000000) : ∀ (d j K : Nat), its.length - j = d → j ≤ its.length → 2 * d + 1 ≤ K →
    patchbayref3_Cast_Out.l0 K t (oRun id t its j).1 (j : Int) id ((oRun id t its j).2.map (·.f0)) ((oRun id t its j).2.map (·.f4)) ((oRun id t its j).2.map (fun x => decide (0 ≤ x.f3))) ((oRun id t its j).2.map (·.f1)) ((oRun id t its j).2.map (·.f2)) rp he t rd = some (outTup id rp rd (outOk id its he t))
  | 0, j, K, hd, hj, hk => by
    obtain rfl : j = its.length := by omega
    obtain ⟨K, rfl⟩ : ∃ q, K = q + 1 := ⟨K - 1, by omega⟩
    have hl := oRun_len id t its its.length
    have h6 := h.le
    obtain ⟨o, l, hol⟩ : ∃ o l, oRun id t its its.length = (o, l) := ⟨_, _, rfl⟩
    unfold outOk
    rw [hol] at hl ⊢
    simp only at hl ⊢
    unfold patchbayref3_Cast_Out.l0
    rw [if_neg (by rw [List.length_map]; omega)]
    have e0 : ((l.map (·.f0)).length : Int) = its.length := by rw [List.length_map]; omega
    rw [e0]
    by_cases h0 : id = 0
    · rw [if_pos h0]
      by_cases h1 : 0 < its.length
      · rw [if_pos (by omega)]
        by_cases h2 : he ≤ t
        · rw [if_pos h2, if_pos (by omega), if_pos ⟨h0, h1, h2⟩, w64 (by omega)]
          rfl
        · rw [if_neg h2, if_neg (fun q => h2 q.2.2)]
          rfl
      · rw [if_neg (by omega), if_neg (fun q => h1 q.2.1)]
        rfl
    · rw [if_neg h0, if_neg (fun q => h0 q.1)]
      rfl
  | d + 1, j, K, hd, hj, hk => by
    obtain ⟨K, rfl⟩ : ∃ q, K = q + 2 := ⟨K - 2, by omega⟩
    have hl := oRun_len id t its j
    have h6 := h.le
    have hs := oRun_sim (id := id) (t := t) h j hj
    rw [out_round id t he rd rp K j _ _ hs (by omega) (by omega) ht]
    exact out_l id t he rd its rp h ht d (j + 1) K (by omega) (by omega) (by omega)
theorem out_ref (K : Nat) (hK : 1200 ≤ K) {id : Int} {its : List S82} {rp : List Int} {he now rd t : Int} (h : Sim its rp) :
    patchbayref3_Cast_Out.f K (RefOf id its rp he now rd).id (RefOf id its rp he now rd).th (RefOf id its rp he now rd).fr (RefOf id its rp he now rd).wt (RefOf id its rp he now rd).bd (RefOf id its rp he now rd).ak (RefOf id its rp he now rd).rp (RefOf id its rp he now rd).he (RefOf id its rp he now rd).now (RefOf id its rp he now rd).rd t =
      some (outTup id rp rd (mOut id its he now t)) ∧ Sim (mOut id its he now t).its rp := by
  have h6 := h.le
  have hr := oRun_sim (id := id) (t := t) h its.length (Nat.le_refl _)
  unfold patchbayref3_Cast_Out.f
  rw [in_v, Option.bind_some]
  by_cases ht : t < 0 ∨ 1000000000 < t
  · have e : mOut id its he now t = ⟨its, he, now, [], 1⟩ := by unfold mOut; rw [if_pos ht]
    rw [if_neg (by rw [decide_eq_true_eq]; omega), e]
    exact ⟨rfl, h⟩
  · rw [if_pos (by rw [decide_eq_true_eq]; omega)]
    by_cases hnow : t < now
    · have e : mOut id its he now t = ⟨its, he, now, [], 13⟩ := by unfold mOut; rw [if_neg ht, if_pos hnow]
      rw [if_pos (show t < (RefOf id its rp he now rd).now from hnow), e]
      exact ⟨rfl, h⟩
    · have e : mOut id its he now t = outOk id its he t := by unfold mOut outOk; rw [if_neg ht, if_neg hnow]
      rw [if_neg (show ¬ t < (RefOf id its rp he now rd).now from hnow), e, copied_f _ _ (refof_len h) (by omega)]
      simp only [Option.bind_some]
      refine ⟨out_l id t he rd its rp h (by omega) its.length 0 K (by omega) (by omega) (by omega), ?_⟩
      unfold outOk
      split
      · exact hr
      · exact hr
end Go.Proofs.Ytcllcjflgeiehaa.PCastPlays
