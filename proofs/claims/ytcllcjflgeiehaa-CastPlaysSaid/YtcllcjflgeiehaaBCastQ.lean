/- Proved: the plain law: a member and the reference's member agree. -/
import Derived.Test.YtcllcjflgeiehaaBCastG
import Derived.Test.YtcllcjflgeiehaaBCastP
import Derived.Test.YtcllcjflgeiehaaBCastX5
namespace Go.Proofs.Ytcllcjflgeiehaa.PCastPlays
open Go.RowKit Go.Proofs.YtcllcjflgeiehaaW.PrintWords Go.Proofs.YtcllcjflgeiehaaW.PrintLast Go.Proofs.YtcllcjflgeiehaaW.PrintMore
set_option linter.unusedVariables false
set_option linter.unusedSimpArgs false
def RefOf (id : Int) (its : List S82) (rp : List Int) (he now rd : Int) : RC := ⟨id, its.map (·.f0), its.map (·.f4), its.map (fun x => decide (0 ≤ x.f3)), its.map (·.f1), its.map (·.f2), rp, he, now, rd⟩
structure Sim (its : List S82) (rp : List Int) : Prop where
  len : rp.length = its.length
  le : its.length ≤ 64
  rep : ∀ j, j < its.length → 0 ≤ (item its j).f3 → rp.getD j 0 = (item its j).f3
theorem refof_len {id : Int} {its : List S82} {rp : List Int} {he now rd : Int} (h : Sim its rp) : RLen (RefOf id its rp he now rd) its.length :=
  ⟨List.length_map _, List.length_map _, List.length_map _, List.length_map _, List.length_map _, h.len⟩
theorem map_rd {α : Type} (f : S82 → α) (its : List S82) (j : Nat) (d : α) (h : j < its.length) : (its.map f).getD j d = f (item its j) := by
  unfold item
  rw [List.getD_eq_getElem?_getD, List.getD_eq_getElem?_getD, List.getElem?_map, List.getElem?_eq_getElem h]
  rfl
theorem map_put {α : Type} (f : S82 → α) (its : List S82) (j : Nat) (x : S82) (h : j < its.length) (e : f x = f (item its j)) : (its.set j x).map f = its.map f := by
  rw [List.map_set, e]
  apply List.ext_getElem?
  intro i
  rw [List.getElem?_set]
  split
  · rename_i hi
    subst hi
    rw [if_pos (by simpa using h), List.getElem?_map, List.getElem?_eq_getElem h]
    unfold item
    rw [List.getD_eq_getElem?_getD, List.getElem?_eq_getElem h]
    rfl
  · rfl
theorem item_app (its : List S82) (d : Nat) (x : S82) (j : Nat) : item (its ++ List.replicate d x) j = if j < its.length then item its j else if j < its.length + d then x else z82 := by
  unfold item
  rw [List.getD_eq_getElem?_getD]
  by_cases h : j < its.length
  · rw [if_pos h, List.getElem?_append_left h, List.getD_eq_getElem?_getD]
  · rw [if_neg h, List.getElem?_append_right (by omega), List.getElem?_replicate]
    by_cases h2 : j < its.length + d
    · rw [if_pos (by omega), if_pos h2]; rfl
    · rw [if_neg (by omega), if_neg h2]; rfl
theorem getD_app (rp : List Int) (d : Nat) (j : Nat) (h : j < rp.length) : (rp ++ List.replicate d 0).getD j 0 = rp.getD j 0 := by
  rw [List.getD_eq_getElem?_getD, List.getD_eq_getElem?_getD, List.getElem?_append_left h]
theorem knows_sim {its : List S82} {rp : List Int} (h : Sim its rp) (m : Nat) (t : Int) (hm : m ≤ 64) : Sim (mKnows its m t) (rp ++ List.replicate (m - its.length) 0) := by
  have hl := mKnows_len its m t
  have h1 := h.len
  have h2 := h.le
  refine ⟨by rw [List.length_append, List.length_replicate]; omega, by omega, fun j hj h0 => ?_⟩
  have e : item (mKnows its m t) j = if j < its.length then item its j else if j < its.length + (m - its.length) then itemOf t else z82 := item_app its _ _ j
  by_cases hj2 : j < its.length
  · rw [if_pos hj2] at e
    rw [e] at h0 ⊢
    rw [getD_app _ _ _ (by omega)]
    exact h.rep j hj2 h0
  · rw [if_neg hj2, if_pos (by omega)] at e
    rw [e] at h0
    exact absurd h0 (by simp [itemOf])
theorem knows_ref (id : Int) (its : List S82) (rp : List Int) (he now rd : Int) (m : Nat) (t : Int) : rGrow (RefOf id its rp he now rd) m t = RefOf id (mKnows its m t) (rp ++ List.replicate (m - its.length) 0) he now rd := by
  unfold rGrow RefOf mKnows
  simp only [List.map_append, List.map_replicate, List.length_map, itemOf]
  rfl
theorem set_sim {its : List S82} {rp : List Int} (h : Sim its rp) (i : Nat) (x : S82) (y : Int) (hi : i < its.length) (hx : 0 ≤ x.f3 → y = x.f3) : Sim (its.set i x) (rp.set i y) := by
  have h1 := h.len
  refine ⟨by simp [h.len], by rw [List.length_set]; exact h.le, fun j hj h0 => ?_⟩
  rw [List.length_set] at hj
  by_cases e : j = i
  · subst e
    rw [item_set hi] at h0 ⊢
    rw [List.getD_eq_getElem?_getD, List.getElem?_set_self (by omega)]
    exact hx h0
  · have e2 : item (its.set i x) j = item its j := by
      unfold item
      rw [List.getD_eq_getElem?_getD, List.getD_eq_getElem?_getD, List.getElem?_set_ne (fun q => e q.symm)]
    rw [e2] at h0 ⊢
    rw [List.getD_eq_getElem?_getD, List.getElem?_set_ne (fun q => e q.symm), ← List.getD_eq_getElem?_getD]
    exact h.rep j hj h0
theorem set_self (rp : List Int) (i : Nat) : rp.set i (rp.getD i 0) = rp := by
  apply List.ext_getElem?
  intro j
  rw [List.getElem?_set]
  split
  · rename_i hi
    subst hi
    split
    · rename_i hl
      rw [List.getD_eq_getElem?_getD, List.getElem?_eq_getElem hl]
      rfl
    · rename_i hl
      rw [List.getElem?_eq_none (by omega)]
  · rfl
theorem set_sim' {its : List S82} {rp : List Int} (h : Sim its rp) (i : Nat) (x : S82) (hi : i < its.length) (hx : 0 ≤ x.f3 → x.f3 = (item its i).f3) : Sim (its.set i x) rp := by
  have h2 := set_sim h i x (rp.getD i 0) hi (fun q => (h.rep i hi (by rw [← hx q]; exact q)).trans (hx q).symm)
  rw [set_self] at h2
  exact h2
theorem mset_same {α : Type} (f : S82 → α) (l : List S82) (i : Nat) (h : i < l.length) (v : α) (hv : v = f (item l i)) : (l.map f).set i v = l.map f := by
  rw [hv, ← List.map_set (f := f) (a := item l i)]
  exact map_put f l i _ h rfl
theorem ok1t {id : Int} {l : List S82} {rp : List Int} {he now rd : Int} {i : Nat} {s : ByteArray} {t : Int} {x1 : ByteArray} {x2 x3 : Int} {x4 : Bool} (h : Sim l rp) (hi : i < l.length) (hx : item l i = ⟨true, x1, x2, x3, x4⟩) :
    rOk (RefOf id l rp he now rd) 1 i s t = RefOf id (l.set i ⟨true, x1, x2, -1, x4⟩) rp he now rd ∧ Sim (l.set i ⟨true, x1, x2, -1, x4⟩) rp := by
  have e1 : rdOf false (RefOf id l rp he now rd).th (i : Int) = true := by unfold rdOf RefOf; rw [Int.toNat_natCast]; exact (map_rd _ l i _ hi).trans (by rw [hx])
  have e2 : rdOf false (RefOf id l rp he now rd).wt (i : Int) = decide (0 ≤ x3) := by unfold rdOf RefOf; rw [Int.toNat_natCast]; exact (map_rd _ l i _ hi).trans (by rw [hx])
  have f0 := mset_same (·.f0) l i hi true (by rw [hx])
  have f4 := mset_same (·.f4) l i hi x4 (by rw [hx])
  have f1 := mset_same (·.f1) l i hi x1 (by rw [hx])
  have f2 := mset_same (·.f2) l i hi x2 (by rw [hx])
  have f3 := mset_same (fun x => decide (0 ≤ x.f3)) l i hi (decide (0 ≤ x3)) (by rw [hx])
  refine ⟨?_, set_sim' h i _ hi (fun q => absurd q (by simp))⟩
  unfold rOk
  rw [e1, e2]
  rw [if_pos rfl, if_pos rfl]
  simp only [RefOf, List.map_set, f0, f1, f2, f3, f4]
  rfl
theorem ok1f {id : Int} {l : List S82} {rp : List Int} {he now rd : Int} {i : Nat} {s : ByteArray} {t : Int} {x1 : ByteArray} {x2 x3 : Int} {x4 : Bool} (h : Sim l rp) (hi : i < l.length) (hx : item l i = ⟨false, x1, x2, x3, x4⟩) :
    rOk (RefOf id l rp he now rd) 1 i s t = RefOf id (l.set i ⟨true, s, x2, -1, x4⟩) rp he now rd ∧ Sim (l.set i ⟨true, s, x2, -1, x4⟩) rp := by
  have e1 : rdOf false (RefOf id l rp he now rd).th (i : Int) = false := by unfold rdOf RefOf; rw [Int.toNat_natCast]; exact (map_rd _ l i _ hi).trans (by rw [hx])
  have e2 : rdOf false (RefOf id l rp he now rd).wt (i : Int) = decide (0 ≤ x3) := by unfold rdOf RefOf; rw [Int.toNat_natCast]; exact (map_rd _ l i _ hi).trans (by rw [hx])
  have f0 := mset_same (·.f0) l i hi false (by rw [hx])
  have f4 := mset_same (·.f4) l i hi x4 (by rw [hx])
  have f1 := mset_same (·.f1) l i hi x1 (by rw [hx])
  have f2 := mset_same (·.f2) l i hi x2 (by rw [hx])
  have f3 := mset_same (fun x => decide (0 ≤ x.f3)) l i hi (decide (0 ≤ x3)) (by rw [hx])
  refine ⟨?_, set_sim' h i _ hi (fun q => absurd q (by simp))⟩
  unfold rOk
  rw [e1, e2]
  rw [if_pos rfl, if_neg (by simp)]
  simp only [RefOf, List.map_set, f0, f1, f2, f3, f4]
  rfl
theorem ok2f {id : Int} {l : List S82} {rp : List Int} {he now rd : Int} {i : Nat} {s : ByteArray} {t : Int} {x1 : ByteArray} {x2 x3 : Int} {x4 : Bool} (h : Sim l rp) (hi : i < l.length) (hx : item l i = ⟨false, x1, x2, x3, x4⟩) :
    rOk (RefOf id l rp he now rd) 2 i s t = RefOf id (l.set i ⟨false, x1, t + 20, x3, x4⟩) rp he now rd ∧ Sim (l.set i ⟨false, x1, t + 20, x3, x4⟩) rp := by
  have e1 : rdOf false (RefOf id l rp he now rd).th (i : Int) = false := by unfold rdOf RefOf; rw [Int.toNat_natCast]; exact (map_rd _ l i _ hi).trans (by rw [hx])
  have e2 : rdOf false (RefOf id l rp he now rd).wt (i : Int) = decide (0 ≤ x3) := by unfold rdOf RefOf; rw [Int.toNat_natCast]; exact (map_rd _ l i _ hi).trans (by rw [hx])
  have f0 := mset_same (·.f0) l i hi false (by rw [hx])
  have f4 := mset_same (·.f4) l i hi x4 (by rw [hx])
  have f1 := mset_same (·.f1) l i hi x1 (by rw [hx])
  have f2 := mset_same (·.f2) l i hi x2 (by rw [hx])
  have f3 := mset_same (fun x => decide (0 ≤ x.f3)) l i hi (decide (0 ≤ x3)) (by rw [hx])
  refine ⟨?_, set_sim' h i _ hi (fun q => by rw [hx])⟩
  unfold rOk
  rw [e1, e2]
  rw [if_neg (by decide), if_pos rfl, if_pos rfl]
  simp only [RefOf, List.map_set, f0, f1, f2, f3, f4]
theorem ok2a {id : Int} {l : List S82} {rp : List Int} {he now rd : Int} {i : Nat} {s : ByteArray} {t : Int} {x1 : ByteArray} {x2 x3 : Int} {x4 : Bool} (h : Sim l rp) (hi : i < l.length) (hx : item l i = ⟨true, x1, x2, x3, x4⟩) (h3 : x3 < 0) (ht : 0 ≤ t + id) :
    rOk (RefOf id l rp he now rd) 2 i s t = RefOf id (l.set i ⟨true, x1, x2, t + id, x4⟩) (rp.set i (t + id)) he now rd ∧ Sim (l.set i ⟨true, x1, x2, t + id, x4⟩) (rp.set i (t + id)) := by
  have e1 : rdOf false (RefOf id l rp he now rd).th (i : Int) = true := by unfold rdOf RefOf; rw [Int.toNat_natCast]; exact (map_rd _ l i _ hi).trans (by rw [hx])
  have e2 : rdOf false (RefOf id l rp he now rd).wt (i : Int) = decide (0 ≤ x3) := by unfold rdOf RefOf; rw [Int.toNat_natCast]; exact (map_rd _ l i _ hi).trans (by rw [hx])
  have f0 := mset_same (·.f0) l i hi true (by rw [hx])
  have f4 := mset_same (·.f4) l i hi x4 (by rw [hx])
  have f1 := mset_same (·.f1) l i hi x1 (by rw [hx])
  have f2 := mset_same (·.f2) l i hi x2 (by rw [hx])
  have f3 := mset_same (fun x => decide (0 ≤ x.f3)) l i hi (decide (0 ≤ x3)) (by rw [hx])
  refine ⟨?_, set_sim h i _ _ hi (fun q => rfl)⟩
  unfold rOk
  rw [e1, e2]
  rw [if_neg (by decide), if_pos rfl, if_neg (by simp), if_pos (decide_eq_false (by omega))]
  simp only [RefOf, List.map_set, f0, f1, f2, f3, f4]
  rw [decide_eq_true ht]
theorem ok2b {id : Int} {l : List S82} {rp : List Int} {he now rd : Int} {i : Nat} {s : ByteArray} {t : Int} {x1 : ByteArray} {x2 x3 : Int} {x4 : Bool} (h : Sim l rp) (hi : i < l.length) (hx : item l i = ⟨true, x1, x2, x3, x4⟩) (h3 : ¬ x3 < 0) :
    rOk (RefOf id l rp he now rd) 2 i s t = RefOf id l rp he now rd ∧ Sim l rp := by
  have e1 : rdOf false (RefOf id l rp he now rd).th (i : Int) = true := by unfold rdOf RefOf; rw [Int.toNat_natCast]; exact (map_rd _ l i _ hi).trans (by rw [hx])
  have e2 : rdOf false (RefOf id l rp he now rd).wt (i : Int) = decide (0 ≤ x3) := by unfold rdOf RefOf; rw [Int.toNat_natCast]; exact (map_rd _ l i _ hi).trans (by rw [hx])
  have f0 := mset_same (·.f0) l i hi true (by rw [hx])
  have f4 := mset_same (·.f4) l i hi x4 (by rw [hx])
  have f1 := mset_same (·.f1) l i hi x1 (by rw [hx])
  have f2 := mset_same (·.f2) l i hi x2 (by rw [hx])
  have f3 := mset_same (fun x => decide (0 ≤ x.f3)) l i hi (decide (0 ≤ x3)) (by rw [hx])
  refine ⟨?_, h⟩
  unfold rOk
  rw [e1, e2]
  rw [if_neg (by decide), if_pos rfl, if_neg (by simp), if_neg (by simp; omega)]
end Go.Proofs.Ytcllcjflgeiehaa.PCastPlays
