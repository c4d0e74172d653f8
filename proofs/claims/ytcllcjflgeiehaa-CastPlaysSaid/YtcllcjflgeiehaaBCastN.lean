/- Proved: what In of a member of a broadcast stream does. -/
import Derived.Test.YtcllcjflgeiehaaBCastI
namespace Go.Proofs.Ytcllcjflgeiehaa.PCastPlays
open Go.RowKit Go.Proofs.YtcllcjflgeiehaaW.PrintWords Go.Proofs.YtcllcjflgeiehaaW.PrintLast Go.Proofs.YtcllcjflgeiehaaW.PrintMore
set_option linter.unusedVariables false
set_option linter.unusedSimpArgs false
/-- Is a note no note? -/
def badF (k f n : Int) (s : ByteArray) : Bool := decide (k < 1 ∨ 3 < k ∨ f < 0 ∨ 15 < f ∨ n < 0 ∨ (if k = 3 then 64 else 63) < n ∨ (k ≠ 1 ∧ 0 < s.size) ∨ 1024 < s.size)
theorem size_nil (s : ByteArray) : (s.toList = []) = (s.size = 0) := by
  have h : s.data.toList.length = s.size := by cases s; rfl
  rw [ByteArray.toList_eq, ← List.length_eq_zero_iff, h]
theorem bad_v (k f n : Int) (s : ByteArray) : cast_badNote.f k f n s = some (badF k f n s) := by
  unfold cast_badNote.f badF
  simp only [size_nil]
  by_cases h3 : k = 3
  · subst h3
    simp only [if_true, if_false, show ¬ ((3 : Int) < 1) from by decide, show ¬ ((3 : Int) > 3) from by decide, show ¬ ((3 : Int) = 1) from by decide]
    (repeat' split) <;> simp only [Option.some.injEq, decide_eq_decide, eq_comm (a := true), decide_eq_true_eq] <;> first | omega | (rename_i h0; rw [h0]; exact ⟨fun h => absurd h (by decide), fun h => by simp at h; omega⟩)
  · simp only [if_neg h3]
    (repeat' split) <;> simp only [Option.some.injEq, decide_eq_decide, eq_comm (a := true), decide_eq_true_eq] <;> omega
theorem bad_no {k f n : Int} {s : ByteArray} (h : badF k f n s = false) : 1 ≤ k ∧ k ≤ 3 ∧ 0 ≤ f ∧ f ≤ 15 ∧ 0 ≤ n ∧ n ≤ 64 ∧ (k = 3 ∨ n ≤ 63) := by
  unfold badF at h
  have h2 := of_decide_eq_false h
  by_cases h3 : k = 3
  · rw [if_pos h3] at h2; omega
  · rw [if_neg h3] at h2; omega
def mData (its : List S82) (no : Nat) (s : ByteArray) (t : Int) : List S82 :=
  (mKnows its (no + 1) t).set no { item (mKnows its (no + 1) t) no with f0 := true, f1 := if (item (mKnows its (no + 1) t) no).f0 = true then (item (mKnows its (no + 1) t) no).f1 else s, f3 := -1 }
/-- What a note does: the messages, the time, the error. -/
def mIn (id : Int) (its : List S82) (now k f n : Int) (s : ByteArray) (t : Int) : List S82 × Int × Int :=
  if t < 0 ∨ 1000000000 < t then (its, now, 1)
  else if badF k f n s = true then (its, now, 3)
  else if t < now then (its, now, 13)
  else if id = 0 ∧ mBeyond k n its = true then (its, now, 10)
  else (if f = id then its else if k = 3 then mKnows its n.toNat t else if k = 1 then mData its n.toNat s t else mAsk id its n.toNat t, t, 0)
def InPost (w0 w : World) (g : Nat) (id rd he : Int) (r : List S82 × Int × Int) (e : Ending) (w' : World) : Prop := e = .returned (.int .i64 r.2.2) ∧ Mem w0.heap.size w' g id r.1 rd he r.2.1 ∧ Below w0.heap.size w0 w' ∧ KeepM w w'
theorem in_done {w0 w W : World} {g z : Nat} {id rd he now' k f n : Int} {v : Value} {its' : List S82} {s : ByteArray} {r : List S82 × Int × Int} {er : Int} (h : MS w0 W g z id v its' rd he now' k f n s) (hk : KeepM w W) (hr : r = (its', now', er)) : InPost w0 w g id rd he r (.returned (.int .i64 er)) W := by
  subst hr
  exact ⟨rfl, h.mem, h.below, hk⟩
theorem in_done2 {w0 w W : World} {g : Nat} {id rd he now' : Int} {its' : List S82} {r : List S82 × Int × Int} {er : Int} (h : Mem w0.heap.size W g id its' rd he now') (hb : Below w0.heap.size w0 W) (hk : KeepM w W) (hr : r = (its', now', er)) : InPost w0 w g id rd he r (.returned (.int .i64 er)) W := by
  subst hr
  exact ⟨rfl, h, hb, hk⟩
theorem mem_put2 {w0 w : World} {g gb c i j : Nat} {id rd he now : Int} {its : List S82} {x : S82} {u : Value} (hbox : MBox w g id (.slice (some ⟨gb, 0, none⟩) its.length c) rd he now) (hg : w0.heap.size ≤ g) (h : MRow w0.heap.size w (.slice (some ⟨gb, 0, none⟩) its.length c) its) (hb : Below w0.heap.size w0 w) (hi : i < its.length) (hj : j < 5)
    (hx : [Value.bool (item its i).f0, .string (item its i).f1, .int .i64 (item its i).f2, .int .i64 (item its i).f3, .bool (item its i).f4].set j u = [Value.bool x.f0, .string x.f1, .int .i64 x.f2, .int .i64 x.f3, .bool x.f4]) :
    MBox (w.setCell ⟨gb, i * 5 + j, none⟩ u) g id (.slice (some ⟨gb, 0, none⟩) (its.set i x).length c) rd he now ∧ MRow w0.heap.size (w.setCell ⟨gb, i * 5 + j, none⟩ u) (.slice (some ⟨gb, 0, none⟩) (its.set i x).length c) (its.set i x) ∧ Below w0.heap.size w0 (w.setCell ⟨gb, i * 5 + j, none⟩ u) ∧ KeepM w (w.setCell ⟨gb, i * 5 + j, none⟩ u) := by
  obtain ⟨a1, a2, a3, a4⟩ := mem_put hbox hg h hb hi hj hx
  exact ⟨by rw [List.length_set]; exact a1, a2, a3, a4⟩
theorem item_set {its : List S82} {i : Nat} {x : S82} (hi : i < its.length) : item (its.set i x) i = x := by
  unfold item
  rw [List.getD_eq_getElem?_getD, List.getElem?_set_self hi]
  rfl
set_option maxHeartbeats 1000000 in
theorem in_arg {w0 w : World} {g : Nat} {id rd he now k f n t : Int} {its : List S82} {s : ByteArray} (h : Mem w0.heap.size w g id its rd he now) (hb : Below w0.heap.size w0 w) (ht : t < 0 ∨ 1000000000 < t) :
    Calls Try.prog 27 #[.pointer (some ⟨g, 0, none⟩), .agg #[.int .i64 k, .int .i64 f, .int .i64 n, .string s], .int .i64 t] w (InPost w0 w g id rd he (mIn id its now k f n s t)) := by
  obtain ⟨v, hbox, hgb, hrow⟩ := h
  obtain ⟨A, c, rfl⟩ := Kd.R_slice hrow
  have HBOX := Aside0.mk hbox
  have HG := Aside0.mk hgb
  have HROW := Aside0.mk hrow
  have HB := Aside0.mk hb
  clear hbox hgb hrow hb
  have HE := Aside0.mk (show mIn id its now k f n s t = (its, now, 1) from by unfold mIn; rw [if_pos ht])
  by_cases h1 : t < 0
  · have d1 : decide (t < 0) = true := decide_eq_true h1
    clear h1 ht
    go_enter Try.func27, Try.ntmps27
    go_wp2_with ((with_reducible refine gate_dst (N := 4) rfl ?_); refine box_event ?hg (N := 4) ?hd (cs := #[.int .i64 k, .int .i64 f, .int .i64 n, .string s]) (t := 56) ?hr ?_; (case hd => rfl); (case hg => rfl); (case hr => first | (go_simp; done) | (go_simp; rfl)); intro z hz_ wz zbox zb; clear hz_; have hs : MS w0 wz g z id (.slice A its.length c) its rd he now k f n s := ⟨blk_below HBOX.out zb, HG.out, HROW.out.below zb, HB.out.trans (zb.mono HB.out.size), zbox⟩; have HK := Aside0.mk (KeepM.below zb); clear zb zbox; obtain ⟨c0, c1, c4, f4, z0, z1, z2, z3⟩ := hs.cells; have HS := Aside0.mk hs; clear hs)
    go_ret
    exact in_done HS.out HK.out HE.out
  · have d1 : decide (t < 0) = false := decide_eq_false h1
    have d2 : decide (1000000000 < t) = true := decide_eq_true (by omega)
    clear h1 ht
    go_enter Try.func27, Try.ntmps27
    go_wp2_with ((with_reducible refine gate_dst (N := 4) rfl ?_); refine box_event ?hg (N := 4) ?hd (cs := #[.int .i64 k, .int .i64 f, .int .i64 n, .string s]) (t := 56) ?hr ?_; (case hd => rfl); (case hg => rfl); (case hr => first | (go_simp; done) | (go_simp; rfl)); intro z hz_ wz zbox zb; clear hz_; have hs : MS w0 wz g z id (.slice A its.length c) its rd he now k f n s := ⟨blk_below HBOX.out zb, HG.out, HROW.out.below zb, HB.out.trans (zb.mono HB.out.size), zbox⟩; have HK := Aside0.mk (KeepM.below zb); clear zb zbox; obtain ⟨c0, c1, c4, f4, z0, z1, z2, z3⟩ := hs.cells; have HS := Aside0.mk hs; clear hs)
    go_ret
    exact in_done HS.out HK.out HE.out
set_option maxHeartbeats 1000000 in
theorem in_bad {w0 w : World} {g : Nat} {id rd he now k f n t : Int} {its : List S82} {s : ByteArray} (h : Mem w0.heap.size w g id its rd he now) (hb : Below w0.heap.size w0 w) (ht : 0 ≤ t ∧ t ≤ 1000000000) (hbad : badF k f n s = true) :
    Calls Try.prog 27 #[.pointer (some ⟨g, 0, none⟩), .agg #[.int .i64 k, .int .i64 f, .int .i64 n, .string s], .int .i64 t] w (InPost w0 w g id rd he (mIn id its now k f n s t)) := by
  obtain ⟨v, hbox, hgb, hrow⟩ := h
  obtain ⟨A, c, rfl⟩ := Kd.R_slice hrow
  have HBOX := Aside0.mk hbox
  have HG := Aside0.mk hgb
  have HROW := Aside0.mk hrow
  have HB := Aside0.mk hb
  clear hbox hgb hrow hb
  have HE := Aside0.mk (show mIn id its now k f n s t = (its, now, 3) from by unfold mIn; rw [if_neg (by omega), if_pos hbad])
  have HBAD := Aside0.mk (show cast_badNote.f k f n s = some true from by rw [bad_v, hbad])
  have d1 : decide (t < 0) = false := decide_eq_false (by omega)
  have d2 : decide (1000000000 < t) = false := decide_eq_false (by omega)
  clear ht hbad
  go_enter Try.func27, Try.ntmps27
  go_wp2_with (first | ((with_reducible refine gate_dst (N := 4) rfl ?_); refine box_event ?hg (N := 4) ?hd (cs := #[.int .i64 k, .int .i64 f, .int .i64 n, .string s]) (t := 56) ?hr ?_; (case hd => rfl); (case hg => rfl); (case hr => first | (go_simp; done) | (go_simp; rfl)); intro z hz_ wz zbox zb; clear hz_; have hs : MS w0 wz g z id (.slice A its.length c) its rd he now k f n s := ⟨blk_below HBOX.out zb, HG.out, HROW.out.below zb, HB.out.trans (zb.mono HB.out.size), zbox⟩; have HK := Aside0.mk (KeepM.below zb); clear zb zbox; obtain ⟨c0, c1, c4, f4, z0, z1, z2, z3⟩ := hs.cells; have HS := Aside0.mk hs; clear hs) | (go_at_call 40; (with_reducible refine (cast_badNote.calls k f n s _ _ HBAD.out).mono ?_); rintro e' wb ⟨rfl, hbb⟩; have hs := HS.out.on hbb; replace HK := Aside0.mk (HK.out.trans (KeepM.below hbb)); clear hbb HS; obtain ⟨c0, c1, c4, f4, z0, z1, z2, z3⟩ := hs.cells; have HS := Aside0.mk hs; clear hs))
  go_ret
  exact in_done HS.out HK.out HE.out
set_option maxHeartbeats 1000000 in
theorem in_old {w0 w : World} {g : Nat} {id rd he now k f n t : Int} {its : List S82} {s : ByteArray} (h : Mem w0.heap.size w g id its rd he now) (hb : Below w0.heap.size w0 w) (ht : 0 ≤ t ∧ t ≤ 1000000000) (hbad : badF k f n s = false) (hnow : t < now) :
    Calls Try.prog 27 #[.pointer (some ⟨g, 0, none⟩), .agg #[.int .i64 k, .int .i64 f, .int .i64 n, .string s], .int .i64 t] w (InPost w0 w g id rd he (mIn id its now k f n s t)) := by
  obtain ⟨v, hbox, hgb, hrow⟩ := h
  obtain ⟨A, c, rfl⟩ := Kd.R_slice hrow
  have HBOX := Aside0.mk hbox
  have HG := Aside0.mk hgb
  have HROW := Aside0.mk hrow
  have HB := Aside0.mk hb
  clear hbox hgb hrow hb
  have HE := Aside0.mk (show mIn id its now k f n s t = (its, now, 13) from by unfold mIn; rw [if_neg (by omega), if_neg (by rw [hbad]; decide), if_pos hnow])
  have HBAD := Aside0.mk (show cast_badNote.f k f n s = some false from by rw [bad_v, hbad])
  have d1 : decide (t < 0) = false := decide_eq_false (by omega)
  have d2 : decide (1000000000 < t) = false := decide_eq_false (by omega)
  have d3 : decide (t < now) = true := decide_eq_true hnow
  clear ht hbad hnow
  go_enter Try.func27, Try.ntmps27
  go_wp2_with (first | ((with_reducible refine gate_dst (N := 4) rfl ?_); refine box_event ?hg (N := 4) ?hd (cs := #[.int .i64 k, .int .i64 f, .int .i64 n, .string s]) (t := 56) ?hr ?_; (case hd => rfl); (case hg => rfl); (case hr => first | (go_simp; done) | (go_simp; rfl)); intro z hz_ wz zbox zb; clear hz_; have hs : MS w0 wz g z id (.slice A its.length c) its rd he now k f n s := ⟨blk_below HBOX.out zb, HG.out, HROW.out.below zb, HB.out.trans (zb.mono HB.out.size), zbox⟩; have HK := Aside0.mk (KeepM.below zb); clear zb zbox; obtain ⟨c0, c1, c4, f4, z0, z1, z2, z3⟩ := hs.cells; have HS := Aside0.mk hs; clear hs) | (go_at_call 40; (with_reducible refine (cast_badNote.calls k f n s _ _ HBAD.out).mono ?_); rintro e' wb ⟨rfl, hbb⟩; have hs := HS.out.on hbb; replace HK := Aside0.mk (HK.out.trans (KeepM.below hbb)); clear hbb HS; obtain ⟨c0, c1, c4, f4, z0, z1, z2, z3⟩ := hs.cells; have HS := Aside0.mk hs; clear hs))
  go_ret
  exact in_done HS.out HK.out HE.out
set_option maxHeartbeats 1000000 in
theorem in_range {w0 w : World} {g : Nat} {id rd he now k f n t : Int} {its : List S82} {s : ByteArray} (h : Mem w0.heap.size w g id its rd he now) (hb : Below w0.heap.size w0 w) (ht : 0 ≤ t ∧ t ≤ 1000000000) (hbad : badF k f n s = false) (hnow : ¬ t < now) (hid : id = 0) (hbey : mBeyond k n its = true) :
    Calls Try.prog 27 #[.pointer (some ⟨g, 0, none⟩), .agg #[.int .i64 k, .int .i64 f, .int .i64 n, .string s], .int .i64 t] w (InPost w0 w g id rd he (mIn id its now k f n s t)) := by
  subst hid
  obtain ⟨v, hbox, hgb, hrow⟩ := h
  obtain ⟨A, c, rfl⟩ := Kd.R_slice hrow
  have HBOX := Aside0.mk hbox
  have HG := Aside0.mk hgb
  have HROW := Aside0.mk hrow
  have HB := Aside0.mk hb
  clear hbox hgb hrow hb
  have HE := Aside0.mk (show mIn 0 its now k f n s t = (its, now, 10) from by unfold mIn; rw [if_neg (by omega), if_neg (by rw [hbad]; decide), if_neg hnow, if_pos ⟨rfl, hbey⟩])
  have HBAD := Aside0.mk (show cast_badNote.f k f n s = some false from by rw [bad_v, hbad])
  have HBEY := Aside0.mk hbey
  have d1 : decide (t < 0) = false := decide_eq_false (by omega)
  have d2 : decide (1000000000 < t) = false := decide_eq_false (by omega)
  have d3 : decide (t < now) = false := decide_eq_false hnow
  clear ht hbad hnow hbey
  go_enter Try.func27, Try.ntmps27
  go_wp2_with (first | ((with_reducible refine gate_dst (N := 4) rfl ?_); refine box_event ?hg (N := 4) ?hd (cs := #[.int .i64 k, .int .i64 f, .int .i64 n, .string s]) (t := 56) ?hr ?_; (case hd => rfl); (case hg => rfl); (case hr => first | (go_simp; done) | (go_simp; rfl)); intro z hz_ wz zbox zb; clear hz_; have hs : MS w0 wz g z 0 (.slice A its.length c) its rd he now k f n s := ⟨blk_below HBOX.out zb, HG.out, HROW.out.below zb, HB.out.trans (zb.mono HB.out.size), zbox⟩; have HK := Aside0.mk (KeepM.below zb); clear zb zbox; obtain ⟨c0, c1, c4, f4, z0, z1, z2, z3⟩ := hs.cells; have HS := Aside0.mk hs; clear hs) | (go_at_call 40; (with_reducible refine (cast_badNote.calls k f n s _ _ HBAD.out).mono ?_); rintro e' wb ⟨rfl, hbb⟩; have hs := HS.out.on hbb; replace HK := Aside0.mk (HK.out.trans (KeepM.below hbb)); clear hbb HS; obtain ⟨c0, c1, c4, f4, z0, z1, z2, z3⟩ := hs.cells; have HS := Aside0.mk hs; clear hs) | (go_at_call 41; (with_reducible refine (beyond_calls (k := k) (f := f) (n := n) (s := s) HS.out.mem HS.out.below).mono ?_); rintro e' wy ⟨rfl, hby⟩; rw [HBEY.out]; have hs := HS.out.on hby; replace HK := Aside0.mk (HK.out.trans (KeepM.below hby)); clear hby HS; obtain ⟨c0, c1, c4, f4, z0, z1, z2, z3⟩ := hs.cells; have HS := Aside0.mk hs; clear hs))
  go_ret
  exact in_done HS.out HK.out HE.out
end Go.Proofs.Ytcllcjflgeiehaa.PCastPlays
