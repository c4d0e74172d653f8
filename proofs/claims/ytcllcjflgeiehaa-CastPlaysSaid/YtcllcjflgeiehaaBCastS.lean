/- Proved: the plain law, second half: Say, In, Out and Got agree. -/
import Derived.Test.YtcllcjflgeiehaaBCastQ
import Derived.Test.YtcllcjflgeiehaaBCastX7
namespace Go.Proofs.Ytcllcjflgeiehaa.PCastPlays
open Go.RowKit Go.Proofs.YtcllcjflgeiehaaW.PrintWords Go.Proofs.YtcllcjflgeiehaaW.PrintLast Go.Proofs.YtcllcjflgeiehaaW.PrintMore
set_option linter.unusedVariables false
set_option linter.unusedSimpArgs false
theorem w64 {x : Int} (h : -9223372036854775808 ≤ x ∧ x ≤ 9223372036854775807) : wrap64 x = x := IntWalk.wrap64_in x h
theorem mAsk_sim {id : Int} {its : List S82} {rp : List Int} {he now rd : Int} {i : Nat} {s : ByteArray} {t : Int} (h : Sim its rp) (hi : i < 64) (ht : 0 ≤ t) (hid : 0 ≤ id) :
    ∃ rp', rOk (RefOf id (mKnows its (i + 1) t) (rp ++ List.replicate (i + 1 - its.length) 0) he now rd) 2 i s t = RefOf id (mAsk id its i t) rp' he now rd ∧ Sim (mAsk id its i t) rp' := by
  have hs := knows_sim h (i + 1) t (by omega)
  have hl := mKnows_len its (i + 1) t
  unfold mAsk
  generalize mKnows its (i + 1) t = l at hs hl ⊢
  generalize rp ++ List.replicate (i + 1 - its.length) 0 = rp2 at hs ⊢
  have hi2 : i < l.length := by omega
  obtain ⟨x, hx⟩ : ∃ x, item l i = x := ⟨_, rfl⟩
  obtain ⟨x0, x1, x2, x3, x4⟩ := x
  rw [hx]
  cases x0 with
  | false => exact ⟨rp2, by simpa using ok2f hs hi2 hx⟩
  | true =>
    by_cases h3 : x3 < 0
    · exact ⟨rp2.set i (t + id), by simpa [h3] using ok2a hs hi2 hx h3 (by omega)⟩
    · exact ⟨rp2, by simpa [h3] using ok2b hs hi2 hx h3⟩
theorem mData_sim {id : Int} {its : List S82} {rp : List Int} {he now rd : Int} {i : Nat} {s : ByteArray} {t : Int} (h : Sim its rp) (hi : i < 64) :
    ∃ rp', rOk (RefOf id (mKnows its (i + 1) t) (rp ++ List.replicate (i + 1 - its.length) 0) he now rd) 1 i s t = RefOf id (mData its i s t) rp' he now rd ∧ Sim (mData its i s t) rp' := by
  have hs := knows_sim h (i + 1) t (by omega)
  have hl := mKnows_len its (i + 1) t
  unfold mData
  generalize mKnows its (i + 1) t = l at hs hl ⊢
  generalize rp ++ List.replicate (i + 1 - its.length) 0 = rp2 at hs ⊢
  have hi2 : i < l.length := by omega
  obtain ⟨x, hx⟩ : ∃ x, item l i = x := ⟨_, rfl⟩
  obtain ⟨x0, x1, x2, x3, x4⟩ := x
  rw [hx]
  cases x0 with
  | false => exact ⟨rp2, by simpa using ok1f hs hi2 hx⟩
  | true => exact ⟨rp2, by simpa using ok1t hs hi2 hx⟩
theorem in_ref {id : Int} {its : List S82} {rp : List Int} {he now rd k f n t : Int} {s : ByteArray} (h : Sim its rp) (hid : 0 ≤ id ∧ id ≤ 15) :
    ∃ rp', rIn (RefOf id its rp he now rd) k f n s t = (RefOf id (mIn id its now k f n s t).1 rp' he (mIn id its now k f n s t).2.1 rd, (mIn id its now k f n s t).2.2) ∧ Sim (mIn id its now k f n s t).1 rp' := by
  have hthl : (RefOf id its rp he now rd).th.length = its.length := List.length_map _
  by_cases ht : t < 0 ∨ 1000000000 < t
  · exact ⟨rp, by unfold rIn mIn; rw [if_pos ht, if_pos ht], by unfold mIn; rw [if_pos ht]; exact h⟩
  by_cases hbad : badF k f n s = true
  · exact ⟨rp, by unfold rIn mIn; rw [if_neg ht, if_neg ht, if_pos hbad, if_pos hbad], by unfold mIn; rw [if_neg ht, if_pos hbad]; exact h⟩
  have hno := bad_no (show badF k f n s = false by simpa using hbad)
  by_cases hnow : t < now
  · exact ⟨rp, by unfold rIn mIn; rw [if_neg ht, if_neg ht, if_neg hbad, if_neg hbad, if_pos hnow, if_pos (show t < (RefOf id its rp he now rd).now from hnow)], by unfold mIn; rw [if_neg ht, if_neg hbad, if_pos hnow]; exact h⟩
  have hb : (id = 0 ∧ mBeyond k n its = true) ↔ (id = 0 ∧ ((RefOf id its rp he now rd).th.length : Int) < (if k = 3 then n else n + 1)) := by
    rw [hthl]
    unfold mBeyond
    by_cases h3 : k = 3
    · rw [if_pos h3, if_pos h3, decide_eq_true_eq]
    · rw [if_neg h3, if_neg h3, decide_eq_true_eq]; omega
  by_cases hr : id = 0 ∧ mBeyond k n its = true
  · exact ⟨rp, by unfold rIn mIn; rw [if_neg ht, if_neg ht, if_neg hbad, if_neg hbad, if_neg hnow, if_neg (show ¬ t < (RefOf id its rp he now rd).now from hnow), if_pos hr, if_pos (show (RefOf id its rp he now rd).id = 0 ∧ _ from hb.1 hr)], by unfold mIn; rw [if_neg ht, if_neg hbad, if_neg hnow, if_pos hr]; exact h⟩
  have em : mIn id its now k f n s t = (if f = id then its else if k = 3 then mKnows its n.toNat t else if k = 1 then mData its n.toNat s t else mAsk id its n.toNat t, t, 0) := by unfold mIn; rw [if_neg ht, if_neg hbad, if_neg hnow, if_neg hr]
  have er : rIn (RefOf id its rp he now rd) k f n s t = if f = id then ({ RefOf id its rp he now rd with now := t }, 0) else (rOk (rGrow { RefOf id its rp he now rd with now := t } (if k = 3 then n.toNat else n.toNat + 1) t) k n.toNat s t, 0) := by
    unfold rIn
    rw [if_neg ht, if_neg hbad, if_neg (show ¬ t < (RefOf id its rp he now rd).now from hnow), if_neg (show ¬ ((RefOf id its rp he now rd).id = 0 ∧ _) from fun q => hr (hb.2 q))]
    rfl
  rw [em, er]
  simp only
  by_cases hf : f = id
  · rw [if_pos hf, if_pos hf]
    exact ⟨rp, rfl, h⟩
  rw [if_neg hf, if_neg hf]
  rw [show { RefOf id its rp he now rd with now := t } = RefOf id its rp he t rd from rfl]
  rw [knows_ref]
  by_cases h3 : k = 3
  · subst h3
    rw [if_pos rfl, if_pos rfl]
    refine ⟨_, ?_, knows_sim h n.toNat t (by omega)⟩
    unfold rOk
    rw [if_neg (by decide), if_neg (by decide)]
  · rw [if_neg h3, if_neg h3]
    rcases (show k = 1 ∨ k = 2 from by omega) with rfl | rfl
    · rw [if_pos rfl]
      obtain ⟨rp', e, hs⟩ := mData_sim (id := id) (he := he) (now := t) (rd := rd) (s := s) (t := t) h (i := n.toNat) (by omega)
      exact ⟨rp', by rw [e], hs⟩
    · rw [if_neg (by decide)]
      obtain ⟨rp', e, hs⟩ := mAsk_sim (id := id) (he := he) (now := t) (rd := rd) (s := s) (t := t) h (i := n.toNat) (by omega) (by omega) hid.1
      exact ⟨rp', by rw [e], hs⟩
theorem got_ref {id : Int} (its : List S82) (rp : List Int) (he now rd : Int) (h6 : its.length ≤ 64) : ∀ (d k j : Nat), its.length - j = d → j ≤ its.length → d < k →
    patchbayref3_Cast_Got.l0 k (j : Int) id (its.map (·.f0)) (its.map (·.f4)) (its.map (fun x => decide (0 ≤ x.f3))) (its.map (·.f1)) (its.map (·.f2)) rp he now rd = some ((j : Int) + (mGot (its.drop j) : Int))
  | d, 0, j, hd, hj, hk => by omega
  | d, k + 1, j, hd, hj, hk => by
    unfold patchbayref3_Cast_Got.l0
    by_cases hlt : j < its.length
    · rw [if_pos (by rw [List.length_map]; omega), if_pos (by omega)]
      have e1 : rdOf false (its.map (·.f0)) (j : Int) = (item its j).f0 := by unfold rdOf; rw [Int.toNat_natCast]; exact map_rd _ its j _ hlt
      rw [e1, mGot_drop its j hlt]
      by_cases h0 : (item its j).f0 = true
      · rw [if_pos h0, if_pos h0, w64 (by omega), show (j : Int) + 1 = ((j + 1 : Nat) : Int) from by omega, got_ref its rp he now rd h6 (d - 1) k (j + 1) (by omega) (by omega) (by omega)]
        congr 1
        omega
      · rw [if_neg h0, if_neg h0]
        simp
    · rw [if_neg (by rw [List.length_map]; omega), List.drop_eq_nil_of_le (by omega)]
      simp [mGot]
theorem got_f {id : Int} {its : List S82} {rp : List Int} {he now rd : Int} (h : Sim its rp) : patchbayref3_Cast_Got.f 2000 (RefOf id its rp he now rd).id (RefOf id its rp he now rd).th (RefOf id its rp he now rd).fr (RefOf id its rp he now rd).wt (RefOf id its rp he now rd).bd (RefOf id its rp he now rd).ak (RefOf id its rp he now rd).rp (RefOf id its rp he now rd).he (RefOf id its rp he now rd).now (RefOf id its rp he now rd).rd = some (mGot its : Int) := by
  have h6 := h.le
  unfold patchbayref3_Cast_Got.f RefOf
  have := got_ref (id := id) its rp he now rd h6 its.length 2000 0 (by omega) (by omega) (by omega)
  simpa using this
/-- The tuple of a state. -/
def tup (c : RC) : Int × List Bool × List Bool × List Bool × List ByteArray × List Int × List Int × Int × Int × Int := (c.id, c.th, c.fr, c.wt, c.bd, c.ak, c.rp, c.he, c.now, c.rd)
theorem grow_k (K : Nat) (hK : 1200 ≤ K) (c : RC) (n m : Nat) (t mi : Int) (hmi : mi = (m : Int)) (h : RLen c n) (hn : n ≤ 1000) (hm : m ≤ 1000) : patchbayref3_Cast_grow.f K c.id c.th c.fr c.wt c.bd c.ak c.rp c.he c.now c.rd mi t = some ((rGrow c m t).id, (rGrow c m t).th, (rGrow c m t).fr, (rGrow c m t).wt, (rGrow c m t).bd, (rGrow c m t).ak, (rGrow c m t).rp, (rGrow c m t).he, (rGrow c m t).now, (rGrow c m t).rd) := by
  subst hmi
  unfold patchbayref3_Cast_grow.f
  have h1 := h.th
  exact grow_l m t c.id c.he c.now c.rd (m - c.th.length) K _ _ _ _ _ _ rfl (by omega) (by omega) (by rw [h.fr, h1]) (by rw [h.wt, h1]) (by rw [h.bd, h1]) (by rw [h.ak, h1]) (by rw [h.rp, h1]) hm
theorem say_ref (K : Nat) (hK : 1200 ≤ K) {id : Int} {its : List S82} {rp : List Int} {he now rd : Int} {s : ByteArray} (h : Sim its rp) (hid : 0 ≤ id ∧ id ≤ 15) :
    ∃ rp', patchbayref3_Cast_Say.f K (RefOf id its rp he now rd).id (RefOf id its rp he now rd).th (RefOf id its rp he now rd).fr (RefOf id its rp he now rd).wt (RefOf id its rp he now rd).bd (RefOf id its rp he now rd).ak (RefOf id its rp he now rd).rp (RefOf id its rp he now rd).he (RefOf id its rp he now rd).now (RefOf id its rp he now rd).rd s =
      some ((RefOf id (mSay id its s).1 rp' he now rd).id, (RefOf id (mSay id its s).1 rp' he now rd).th, (RefOf id (mSay id its s).1 rp' he now rd).fr, (RefOf id (mSay id its s).1 rp' he now rd).wt, (RefOf id (mSay id its s).1 rp' he now rd).bd, (RefOf id (mSay id its s).1 rp' he now rd).ak, (RefOf id (mSay id its s).1 rp' he now rd).rp, (RefOf id (mSay id its s).1 rp' he now rd).he, (RefOf id (mSay id its s).1 rp' he now rd).now, (RefOf id (mSay id its s).1 rp' he now rd).rd, (mSay id its s).2) ∧ Sim (mSay id its s).1 rp' := by
  have hthl : (RefOf id its rp he now rd).th.length = its.length := List.length_map _
  have h6 := h.le
  unfold patchbayref3_Cast_Say.f
  by_cases h0 : id = 0
  · rw [if_neg (show ¬ (RefOf id its rp he now rd).id > 0 from by show ¬ id > 0; omega)]
    by_cases hs : 1024 < s.size
    · rw [if_pos (by omega)]
      have e : mSay id its s = (its, 2) := by unfold mSay; rw [if_neg (by simpa using h0), if_pos hs]
      rw [e]
      exact ⟨rp, rfl, h⟩
    · rw [if_neg (by omega)]
      by_cases hf : 64 ≤ its.length
      · rw [if_pos (by omega)]
        have e : mSay id its s = (its, 5) := by unfold mSay; rw [if_neg (by simpa using h0), if_neg hs, if_pos hf]
        rw [e]
        exact ⟨rp, rfl, h⟩
      · rw [if_neg (by omega)]
        have e : mSay id its s = (its ++ [⟨true, s, 0, -1, true⟩], 0) := by unfold mSay; rw [if_neg (by simpa using h0), if_neg hs, if_neg hf]
        rw [e, copied_f _ _ (refof_len h) (by omega)]
        simp only [Option.bind_some]
        rw [grow_k K hK (RefOf id its rp he now rd) its.length (its.length + 1) 0 _ (by rw [hthl, w64 (by omega)]; omega) (refof_len h) (by omega) (by omega)]
        simp only [Option.bind_some]
        have hk := knows_ref id its rp he now rd (its.length + 1) 0
        have hs2 := knows_sim h (its.length + 1) 0 (by omega)
        have hl : (mKnows its (its.length + 1) 0).length = its.length + 1 := by rw [mKnows_len]; omega
        have hit : item (mKnows its (its.length + 1) 0) its.length = itemOf 0 := by
          have q := item_app its (its.length + 1 - its.length) (itemOf 0) its.length
          rw [if_neg (by omega), if_pos (by omega)] at q
          exact q
        have hset : (mKnows its (its.length + 1) 0).set its.length ⟨true, s, 0, -1, true⟩ = its ++ [⟨true, s, 0, -1, true⟩] := by
          unfold mKnows
          rw [show its.length + 1 - its.length = 1 from by omega, List.set_append_right _ _ (by omega), Nat.sub_self]
          rfl
        rw [hk]
        generalize hL : mKnows its (its.length + 1) 0 = l at hs2 hl hit hset ⊢
        generalize rp ++ List.replicate (its.length + 1 - its.length) 0 = rp2 at hs2 ⊢
        have l1 : ((RefOf id l rp2 he now rd).th.length : Int) = its.length + 1 := by rw [show (RefOf id l rp2 he now rd).th.length = l.length from List.length_map _, hl]; omega
        have l2 : ((RefOf id l rp2 he now rd).fr.length : Int) = its.length + 1 := by rw [show (RefOf id l rp2 he now rd).fr.length = l.length from List.length_map _, hl]; omega
        have l3 : ((RefOf id l rp2 he now rd).bd.length : Int) = its.length + 1 := by rw [show (RefOf id l rp2 he now rd).bd.length = l.length from List.length_map _, hl]; omega
        have ei : wrap64 (((RefOf id l rp2 he now rd).th.length : Int) - 1) = (its.length : Int) := by
          rw [show (RefOf id l rp2 he now rd).th.length = l.length from List.length_map _, hl, w64 (by omega)]; omega
        rw [ei]
        clear ei
        rw [if_pos (by omega), if_pos (by omega), if_pos (by omega), if_pos (by omega), Int.toNat_natCast]
        have hi2 : its.length < l.length := by omega
        refine ⟨rp2, ?_, by rw [← hset]; exact set_sim' hs2 _ _ hi2 (fun q => absurd q (by simp))⟩
        rw [← hset]
        have g3 := mset_same (fun x => decide (0 ≤ x.f3)) l its.length hi2 (decide ((0 : Int) ≤ -1)) (by rw [hit]; rfl)
        have g2 := mset_same (·.f2) l its.length hi2 0 (by rw [hit]; rfl)
        simp only [RefOf, List.map_set, g2, g3]
  · rw [if_pos (show (RefOf id its rp he now rd).id > 0 from by show id > 0; omega)]
    have e : mSay id its s = (its, 14) := by unfold mSay; rw [if_pos h0]
    rw [e]
    exact ⟨rp, rfl, h⟩
end Go.Proofs.Ytcllcjflgeiehaa.PCastPlays
