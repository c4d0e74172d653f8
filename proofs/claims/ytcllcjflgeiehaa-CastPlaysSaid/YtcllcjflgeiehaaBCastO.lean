/- Proved: what In of a member of a broadcast stream does. -/
import Derived.Test.YtcllcjflgeiehaaBCastN
import Derived.BigRegion
namespace Go.Proofs.Ytcllcjflgeiehaa.PCastPlays
open Go.RowKit Go.Proofs.YtcllcjflgeiehaaW.PrintWords Go.Proofs.YtcllcjflgeiehaaW.PrintLast Go.Proofs.YtcllcjflgeiehaaW.PrintMore
set_option linter.unusedVariables false
set_option linter.unusedSimpArgs false
set_option maxHeartbeats 2000000 in
theorem in_ok_a1 {w0 w : World} {g : Nat} {id rd he now k f n t : Int} {its : List S82} {s : ByteArray} (h : Mem w0.heap.size w g id its rd he now) (hb : Below w0.heap.size w0 w) (ht : 0 ≤ t ∧ t ≤ 1000000000) (hbad : badF k f n s = false) (hnow : ¬ t < now) (hid : id ≠ 0) (hf : id = f) (hl : its.length ≤ 64) (hib : 0 ≤ id ∧ id ≤ 15) :
    Calls Try.prog 27 #[.pointer (some ⟨g, 0, none⟩), .agg #[.int .i64 k, .int .i64 f, .int .i64 n, .string s], .int .i64 t] w (InPost w0 w g id rd he (mIn id its now k f n s t)) := by
  have hn := bad_no hbad
  have HE0 : mIn id its now k f n s t = (if f = id then its else if k = 3 then mKnows its n.toNat t else if k = 1 then mData its n.toNat s t else mAsk id its n.toNat t, t, 0) := by unfold mIn; rw [if_neg (by omega), if_neg (by rw [hbad]; decide), if_neg hnow, if_neg (by exact fun q => hid q.1)]
  have HE := Aside0.mk (show mIn id its now k f n s t = (its, t, 0) from by rw [HE0, if_pos hf.symm])
  clear HE0
  have HBAD := Aside0.mk (show cast_badNote.f k f n s = some false from by rw [bad_v, hbad])
  have d0 : (id == 0) = false := by simpa using hid
  subst hf
  obtain ⟨v, hbox, hgb, hrow⟩ := h
  obtain ⟨A, c, rfl⟩ := Kd.R_slice hrow
  have HBOX := Aside0.mk hbox
  have HG := Aside0.mk hgb
  have HROW := Aside0.mk hrow
  have HB := Aside0.mk hb
  clear hbox hgb hrow hb
  have d1 : decide (t < 0) = false := decide_eq_false (by omega)
  have d2 : decide (1000000000 < t) = false := decide_eq_false (by omega)
  have d3 : decide (t < now) = false := decide_eq_false hnow
  obtain ⟨no, rfl⟩ : ∃ q : Nat, n = q := ⟨n.toNat, by omega⟩
  clear hbad hnow hid
  go_enter Try.func27, Try.ntmps27
  go_upto_region 10 with (first | ((with_reducible refine gate_dst (N := 4) rfl ?_); refine box_event ?hg (N := 4) ?hd (cs := #[.int .i64 k, .int .i64 id, .int .i64 (no : Int), .string s]) (t := 56) ?hr ?_; (case hd => rfl); (case hg => rfl); (case hr => first | (go_simp; done) | (go_simp; rfl)); intro z hz_ wz zbox zb; clear hz_; have hs : MS w0 wz g z id (.slice A its.length c) its rd he now k id (no : Int) s := ⟨blk_below HBOX.out zb, HG.out, HROW.out.below zb, HB.out.trans (zb.mono HB.out.size), zbox⟩; have HK := Aside0.mk (KeepM.below zb); clear zb zbox; obtain ⟨c0, c1, c4, f4, z0, z1, z2, z3⟩ := hs.cells; have HS := Aside0.mk hs; clear hs) | (go_at_call 40; (with_reducible refine (cast_badNote.calls k id (no : Int) s _ _ HBAD.out).mono ?_); rintro e' wb ⟨rfl, hbb⟩; have hs := HS.out.on hbb; replace HK := Aside0.mk (HK.out.trans (KeepM.below hbb)); clear hbb HS; obtain ⟨c0, c1, c4, f4, z0, z1, z2, z3⟩ := hs.cells; have HS := Aside0.mk hs; clear hs))
  have hs := (HS.out.now_ t).1
  have hk := HK.out.trans (HS.out.now_ t).2
  generalize wb.setCell ⟨g, 4, none⟩ (.int .i64 t) = wn at hs hk ⊢
  clear HS HK
  obtain ⟨c0, c1, c4, f4, z0, z1, z2, z3⟩ := hs.cells
  have HS := Aside0.mk hs
  clear hs
  have HK := Aside0.mk hk
  clear hk
  go_quiet (fail)
  have hs := HS.out.on (pw_below_drewN (Below.refl wn.heap.size wn) nq)
  have hk := HK.out.trans (KeepM.below (pw_below_drewN (Below.refl wn.heap.size wn) nq))
  generalize wn.drewN nq = w5 at hs hk ⊢
  clear HS HK
  obtain ⟨c0, c1, c4, f4, z0, z1, z2, z3⟩ := hs.cells
  have HS := Aside0.mk hs
  clear hs
  have HK := Aside0.mk hk
  clear hk
  go_wp2
  go_ret
  exact in_done HS.out HK.out HE.out
set_option maxHeartbeats 2000000 in
theorem in_ok_b1 {w0 w : World} {g : Nat} {id rd he now k f n t : Int} {its : List S82} {s : ByteArray} (h : Mem w0.heap.size w g id its rd he now) (hb : Below w0.heap.size w0 w) (ht : 0 ≤ t ∧ t ≤ 1000000000) (hbad : badF k f n s = false) (hnow : ¬ t < now) (hid : id ≠ 0) (hf : f ≠ id) (hk : k = 3) (hl : its.length ≤ 64) (hib : 0 ≤ id ∧ id ≤ 15) :
    Calls Try.prog 27 #[.pointer (some ⟨g, 0, none⟩), .agg #[.int .i64 k, .int .i64 f, .int .i64 n, .string s], .int .i64 t] w (InPost w0 w g id rd he (mIn id its now k f n s t)) := by
  have hn := bad_no hbad
  have HE0 : mIn id its now k f n s t = (if f = id then its else if k = 3 then mKnows its n.toNat t else if k = 1 then mData its n.toNat s t else mAsk id its n.toNat t, t, 0) := by unfold mIn; rw [if_neg (by omega), if_neg (by rw [hbad]; decide), if_neg hnow, if_neg (by exact fun q => hid q.1)]
  have HE := Aside0.mk (show mIn id its now k f n s t = (mKnows its n.toNat t, t, 0) from by rw [HE0, if_neg hf, if_pos hk])
  clear HE0
  have HBAD := Aside0.mk (show cast_badNote.f k f n s = some false from by rw [bad_v, hbad])
  have d5 : (f == id) = false := by simpa using hf
  have d0 : (id == 0) = false := by simpa using hid
  subst hk
  obtain ⟨v, hbox, hgb, hrow⟩ := h
  obtain ⟨A, c, rfl⟩ := Kd.R_slice hrow
  have HBOX := Aside0.mk hbox
  have HG := Aside0.mk hgb
  have HROW := Aside0.mk hrow
  have HB := Aside0.mk hb
  clear hbox hgb hrow hb
  have d1 : decide (t < 0) = false := decide_eq_false (by omega)
  have d2 : decide (1000000000 < t) = false := decide_eq_false (by omega)
  have d3 : decide (t < now) = false := decide_eq_false hnow
  obtain ⟨no, rfl⟩ : ∃ q : Nat, n = q := ⟨n.toNat, by omega⟩
  clear hbad hnow hid hf
  go_enter Try.func27, Try.ntmps27
  go_upto_region 10 with (first | ((with_reducible refine gate_dst (N := 4) rfl ?_); refine box_event ?hg (N := 4) ?hd (cs := #[.int .i64 3, .int .i64 f, .int .i64 (no : Int), .string s]) (t := 56) ?hr ?_; (case hd => rfl); (case hg => rfl); (case hr => first | (go_simp; done) | (go_simp; rfl)); intro z hz_ wz zbox zb; clear hz_; have hs : MS w0 wz g z id (.slice A its.length c) its rd he now 3 f (no : Int) s := ⟨blk_below HBOX.out zb, HG.out, HROW.out.below zb, HB.out.trans (zb.mono HB.out.size), zbox⟩; have HK := Aside0.mk (KeepM.below zb); clear zb zbox; obtain ⟨c0, c1, c4, f4, z0, z1, z2, z3⟩ := hs.cells; have HS := Aside0.mk hs; clear hs) | (go_at_call 40; (with_reducible refine (cast_badNote.calls 3 f (no : Int) s _ _ HBAD.out).mono ?_); rintro e' wb ⟨rfl, hbb⟩; have hs := HS.out.on hbb; replace HK := Aside0.mk (HK.out.trans (KeepM.below hbb)); clear hbb HS; obtain ⟨c0, c1, c4, f4, z0, z1, z2, z3⟩ := hs.cells; have HS := Aside0.mk hs; clear hs))
  have hs := (HS.out.now_ t).1
  have hk := HK.out.trans (HS.out.now_ t).2
  generalize wb.setCell ⟨g, 4, none⟩ (.int .i64 t) = wn at hs hk ⊢
  clear HS HK
  obtain ⟨c0, c1, c4, f4, z0, z1, z2, z3⟩ := hs.cells
  have HS := Aside0.mk hs
  clear hs
  have HK := Aside0.mk hk
  clear hk
  go_quiet (fail)
  have hs := HS.out.on (pw_below_drewN (Below.refl wn.heap.size wn) nq)
  have hk := HK.out.trans (KeepM.below (pw_below_drewN (Below.refl wn.heap.size wn) nq))
  generalize wn.drewN nq = w5 at hs hk ⊢
  clear HS HK
  obtain ⟨c0, c1, c4, f4, z0, z1, z2, z3⟩ := hs.cells
  have HS := Aside0.mk hs
  clear hs
  have HK := Aside0.mk hk
  clear hk
  have he := HE.out
  rw [Int.toNat_natCast] at he
  replace HE := Aside0.mk he
  clear he
  go_wp2_with (go_at_call 42; (with_reducible refine (knows_calls (m := no) rfl HS.out.mem HS.out.below hl (by omega)).mono ?_); rintro e' w6 ⟨rfl, hm6, hb6, hk6⟩; have HM6 := Aside0.mk hm6; have HB6 := Aside0.mk hb6; have HK6 := Aside0.mk hk6; clear hm6 hb6 hk6)
  go_ret
  exact in_done2 HM6.out HB6.out (HK.out.trans HK6.out) HE.out
set_option maxHeartbeats 2000000 in
theorem in_ok_c1 {w0 w : World} {g : Nat} {id rd he now k f n t : Int} {its : List S82} {s : ByteArray} (h : Mem w0.heap.size w g id its rd he now) (hb : Below w0.heap.size w0 w) (ht : 0 ≤ t ∧ t ≤ 1000000000) (hbad : badF k f n s = false) (hnow : ¬ t < now) (hid : id ≠ 0) (hf : f ≠ id) (hk : k = 1) (hl : its.length ≤ 64) (hib : 0 ≤ id ∧ id ≤ 15) :
    Calls Try.prog 27 #[.pointer (some ⟨g, 0, none⟩), .agg #[.int .i64 k, .int .i64 f, .int .i64 n, .string s], .int .i64 t] w (InPost w0 w g id rd he (mIn id its now k f n s t)) := by
  have hn := bad_no hbad
  have HE0 : mIn id its now k f n s t = (if f = id then its else if k = 3 then mKnows its n.toNat t else if k = 1 then mData its n.toNat s t else mAsk id its n.toNat t, t, 0) := by unfold mIn; rw [if_neg (by omega), if_neg (by rw [hbad]; decide), if_neg hnow, if_neg (by exact fun q => hid q.1)]
  have HE := Aside0.mk (show mIn id its now k f n s t = (mData its n.toNat s t, t, 0) from by rw [HE0, if_neg hf, if_neg (by omega), if_pos hk])
  clear HE0
  have HBAD := Aside0.mk (show cast_badNote.f k f n s = some false from by rw [bad_v, hbad])
  have d5 : (f == id) = false := by simpa using hf
  have d0 : (id == 0) = false := by simpa using hid
  subst hk
  obtain ⟨v, hbox, hgb, hrow⟩ := h
  obtain ⟨A, c, rfl⟩ := Kd.R_slice hrow
  have HBOX := Aside0.mk hbox
  have HG := Aside0.mk hgb
  have HROW := Aside0.mk hrow
  have HB := Aside0.mk hb
  clear hbox hgb hrow hb
  have d1 : decide (t < 0) = false := decide_eq_false (by omega)
  have d2 : decide (1000000000 < t) = false := decide_eq_false (by omega)
  have d3 : decide (t < now) = false := decide_eq_false hnow
  obtain ⟨no, rfl⟩ : ∃ q : Nat, n = q := ⟨n.toNat, by omega⟩
  clear hbad hnow hid hf
  go_enter Try.func27, Try.ntmps27
  go_upto_region 10 with (first | ((with_reducible refine gate_dst (N := 4) rfl ?_); refine box_event ?hg (N := 4) ?hd (cs := #[.int .i64 1, .int .i64 f, .int .i64 (no : Int), .string s]) (t := 56) ?hr ?_; (case hd => rfl); (case hg => rfl); (case hr => first | (go_simp; done) | (go_simp; rfl)); intro z hz_ wz zbox zb; clear hz_; have hs : MS w0 wz g z id (.slice A its.length c) its rd he now 1 f (no : Int) s := ⟨blk_below HBOX.out zb, HG.out, HROW.out.below zb, HB.out.trans (zb.mono HB.out.size), zbox⟩; have HK := Aside0.mk (KeepM.below zb); clear zb zbox; obtain ⟨c0, c1, c4, f4, z0, z1, z2, z3⟩ := hs.cells; have HS := Aside0.mk hs; clear hs) | (go_at_call 40; (with_reducible refine (cast_badNote.calls 1 f (no : Int) s _ _ HBAD.out).mono ?_); rintro e' wb ⟨rfl, hbb⟩; have hs := HS.out.on hbb; replace HK := Aside0.mk (HK.out.trans (KeepM.below hbb)); clear hbb HS; obtain ⟨c0, c1, c4, f4, z0, z1, z2, z3⟩ := hs.cells; have HS := Aside0.mk hs; clear hs))
  have hs := (HS.out.now_ t).1
  have hk := HK.out.trans (HS.out.now_ t).2
  generalize wb.setCell ⟨g, 4, none⟩ (.int .i64 t) = wn at hs hk ⊢
  clear HS HK
  obtain ⟨c0, c1, c4, f4, z0, z1, z2, z3⟩ := hs.cells
  have HS := Aside0.mk hs
  clear hs
  have HK := Aside0.mk hk
  clear hk
  go_quiet (fail)
  have hs := HS.out.on (pw_below_drewN (Below.refl wn.heap.size wn) nq)
  have hk := HK.out.trans (KeepM.below (pw_below_drewN (Below.refl wn.heap.size wn) nq))
  generalize wn.drewN nq = w5 at hs hk ⊢
  clear HS HK
  obtain ⟨c0, c1, c4, f4, z0, z1, z2, z3⟩ := hs.cells
  have HS := Aside0.mk hs
  clear hs
  have HK := Aside0.mk hk
  clear hk
  have he := HE.out
  rw [Int.toNat_natCast] at he
  replace HE := Aside0.mk he
  clear he
  have hll := mKnows_len its (no + 1) t
  have hno : no < (mKnows its (no + 1) t).length := by omega
  obtain ⟨l, hle⟩ : ∃ x, mKnows its (no + 1) t = x := ⟨_, rfl⟩
  have he := HE.out
  unfold mData at he
  rw [hle] at he hno
  replace HE := Aside0.mk he
  have HLE := Aside0.mk hle
  clear he hle hll
  go_upto_region 17 with (go_at_call 42; (with_reducible refine (knows_calls (m := no + 1) (by omega) HS.out.mem HS.out.below hl (by omega)).mono ?_); rintro e' w6 ⟨rfl, hm6, hb6, hk6⟩; rw [HLE.out] at hm6; have HM6 := Aside0.mk hm6; have HB6 := Aside0.mk hb6; have HK6 := Aside0.mk hk6; clear hm6 hb6 hk6)
  obtain ⟨v6, hbox6, hge6, hrow6⟩ := HM6.out
  obtain ⟨gb, c6, rfl, _⟩ := row_form hrow6 (by omega)
  have hs : MS w0 w6 g z id (.slice (some ⟨gb, 0, none⟩) l.length c6) l rd he t 1 f (no : Int) s := ⟨hbox6, hge6, hrow6, HB6.out, HK6.out.2 _ _ _ HS.out.zbox (by decide) (by decide)⟩
  have hk := HK.out.trans HK6.out
  clear hbox6 hge6 hrow6 HM6 HB6 HK6 HS HK c0 c1 c4 f4 z0 z1 z2 z3
  obtain ⟨c0, c1, c4, f4, z0, z1, z2, z3⟩ := hs.cells
  have HS := Aside0.mk hs
  clear hs
  have HK := Aside0.mk hk
  clear hk
  go_quiet (fail)
  have hs := HS.out.on (pw_below_drewN (Below.refl w6.heap.size w6) nq)
  have hk := HK.out.trans (KeepM.below (pw_below_drewN (Below.refl w6.heap.size w6) nq))
  generalize w6.drewN nq = w7 at hs hk ⊢
  clear HS HK
  obtain ⟨c0, c1, c4, f4, z0, z1, z2, z3⟩ := hs.cells
  have HS := Aside0.mk hs
  clear hs
  have HK := Aside0.mk hk
  clear hk
  obtain ⟨i0, i1, i2, i3, i4, fz⟩ := row_item HS.out.row hno
  have f3 := fz 3
  have f0 : w7.frozen? ⟨gb, no * 5, none⟩ = false := fz 0
  have f1 := fz 1
  clear fz
  obtain ⟨x, hx⟩ : ∃ x, item l no = x := ⟨_, rfl⟩
  rw [hx] at i0 i1 i2 i3 i4
  have he := HE.out
  rw [hx] at he
  replace HE := Aside0.mk he
  have HX := Aside0.mk hx
  obtain ⟨x0, x1, x2, x3, x4⟩ := x
  simp only at i0 i1 i2 i3 i4
  clear hx he
  cases x0 with
  | true =>
    go_wp2
    go_ret
    have hx := HX.out
    obtain ⟨a1, a2, a3, a4⟩ := mem_put (j := 3) (u := .int .i64 (-1)) (x := ⟨true, x1, x2, -1, x4⟩) HS.out.box HS.out.ge HS.out.row HS.out.below hno (by omega) (by rw [hx]; rfl)
    exact in_done2 ⟨_, by rw [List.length_set]; exact a1, HS.out.ge, a2⟩ a3 (HK.out.trans a4) (HE.out.trans (by simp))
  | false =>
    go_wp2
    go_region
    have hx := HX.out
    obtain ⟨a1, a2, a3, a4⟩ := mem_put2 (j := 0) (u := .bool true) (x := ⟨true, x1, x2, x3, x4⟩) HS.out.box HS.out.ge HS.out.row HS.out.below hno (by omega) (by rw [hx]; rfl)
    obtain ⟨b1, b2, b3, b4⟩ := mem_put2 (j := 1) (u := .string s) (x := ⟨true, s, x2, x3, x4⟩) a1 HS.out.ge a2 a3 (by rw [List.length_set]; exact hno) (by omega) (by rw [item_set hno]; rfl)
    have hk := HK.out.trans (a4.trans b4)
    rw [List.set_set] at b1 b2
    simp only [Nat.add_zero] at b1 b2 b3 hk
    have HG2 := Aside0.mk HS.out.ge
    clear a1 a2 a3 a4 b4 hx HS c0 c1 c4 f4 z0 z1 z2 z3 i0 i1 i2 i3 i4 f0 f1 f3
    generalize (w7.setCell ⟨gb, no * 5, none⟩ (.bool true)).setCell ⟨gb, no * 5 + 1, none⟩ (.string s) = w8 at b1 b2 b3 hk ⊢
    have hno2 : no < (l.set no (⟨true, s, x2, x3, x4⟩ : S82)).length := by rw [List.length_set]; exact hno
    obtain ⟨_, _, _, i3, _, fz⟩ := row_item b2 hno2
    have f3 := fz 3
    rw [item_set hno] at i3
    have B1 := Aside0.mk b1
    have B2 := Aside0.mk b2
    have B3 := Aside0.mk b3
    have HK8 := Aside0.mk hk
    clear b1 b2 b3 hk fz
    go_wp2
    go_ret
    obtain ⟨a1, a2, a3, a4⟩ := mem_put2 (w := w8.drew) (j := 3) (u := .int .i64 (-1)) (x := ⟨true, s, x2, -1, x4⟩) (blk_below B1.out (below_drew (Below.refl _ _))) HG2.out (B2.out.below (below_drew (Below.refl _ _))) (below_drew B3.out) hno2 (by omega) (by rw [item_set hno]; rfl)
    rw [List.set_set] at a1 a2
    exact in_done2 ⟨_, a1, HG2.out, a2⟩ a3 ((HK8.out.trans (KeepM.below (below_drew (Below.refl _ _)))).trans a4) (HE.out.trans (by simp))
set_option maxHeartbeats 2000000 in
theorem in_ok_d1 {w0 w : World} {g : Nat} {id rd he now k f n t : Int} {its : List S82} {s : ByteArray} (h : Mem w0.heap.size w g id its rd he now) (hb : Below w0.heap.size w0 w) (ht : 0 ≤ t ∧ t ≤ 1000000000) (hbad : badF k f n s = false) (hnow : ¬ t < now) (hid : id ≠ 0) (hf : f ≠ id) (hk : k = 2) (hl : its.length ≤ 64) (hib : 0 ≤ id ∧ id ≤ 15) :
    Calls Try.prog 27 #[.pointer (some ⟨g, 0, none⟩), .agg #[.int .i64 k, .int .i64 f, .int .i64 n, .string s], .int .i64 t] w (InPost w0 w g id rd he (mIn id its now k f n s t)) := by
  have hn := bad_no hbad
  have HE0 : mIn id its now k f n s t = (if f = id then its else if k = 3 then mKnows its n.toNat t else if k = 1 then mData its n.toNat s t else mAsk id its n.toNat t, t, 0) := by unfold mIn; rw [if_neg (by omega), if_neg (by rw [hbad]; decide), if_neg hnow, if_neg (by exact fun q => hid q.1)]
  have HE := Aside0.mk (show mIn id its now k f n s t = (mAsk id its n.toNat t, t, 0) from by rw [HE0, if_neg hf, if_neg (by omega), if_neg (by omega)])
  clear HE0
  have HBAD := Aside0.mk (show cast_badNote.f k f n s = some false from by rw [bad_v, hbad])
  have d5 : (f == id) = false := by simpa using hf
  have d0 : (id == 0) = false := by simpa using hid
  subst hk
  obtain ⟨v, hbox, hgb, hrow⟩ := h
  obtain ⟨A, c, rfl⟩ := Kd.R_slice hrow
  have HBOX := Aside0.mk hbox
  have HG := Aside0.mk hgb
  have HROW := Aside0.mk hrow
  have HB := Aside0.mk hb
  clear hbox hgb hrow hb
  have d1 : decide (t < 0) = false := decide_eq_false (by omega)
  have d2 : decide (1000000000 < t) = false := decide_eq_false (by omega)
  have d3 : decide (t < now) = false := decide_eq_false hnow
  obtain ⟨no, rfl⟩ : ∃ q : Nat, n = q := ⟨n.toNat, by omega⟩
  clear hbad hnow hid hf
  go_enter Try.func27, Try.ntmps27
  go_upto_region 10 with (first | ((with_reducible refine gate_dst (N := 4) rfl ?_); refine box_event ?hg (N := 4) ?hd (cs := #[.int .i64 2, .int .i64 f, .int .i64 (no : Int), .string s]) (t := 56) ?hr ?_; (case hd => rfl); (case hg => rfl); (case hr => first | (go_simp; done) | (go_simp; rfl)); intro z hz_ wz zbox zb; clear hz_; have hs : MS w0 wz g z id (.slice A its.length c) its rd he now 2 f (no : Int) s := ⟨blk_below HBOX.out zb, HG.out, HROW.out.below zb, HB.out.trans (zb.mono HB.out.size), zbox⟩; have HK := Aside0.mk (KeepM.below zb); clear zb zbox; obtain ⟨c0, c1, c4, f4, z0, z1, z2, z3⟩ := hs.cells; have HS := Aside0.mk hs; clear hs) | (go_at_call 40; (with_reducible refine (cast_badNote.calls 2 f (no : Int) s _ _ HBAD.out).mono ?_); rintro e' wb ⟨rfl, hbb⟩; have hs := HS.out.on hbb; replace HK := Aside0.mk (HK.out.trans (KeepM.below hbb)); clear hbb HS; obtain ⟨c0, c1, c4, f4, z0, z1, z2, z3⟩ := hs.cells; have HS := Aside0.mk hs; clear hs))
  have hs := (HS.out.now_ t).1
  have hk := HK.out.trans (HS.out.now_ t).2
  generalize wb.setCell ⟨g, 4, none⟩ (.int .i64 t) = wn at hs hk ⊢
  clear HS HK
  obtain ⟨c0, c1, c4, f4, z0, z1, z2, z3⟩ := hs.cells
  have HS := Aside0.mk hs
  clear hs
  have HK := Aside0.mk hk
  clear hk
  go_quiet (fail)
  have hs := HS.out.on (pw_below_drewN (Below.refl wn.heap.size wn) nq)
  have hk := HK.out.trans (KeepM.below (pw_below_drewN (Below.refl wn.heap.size wn) nq))
  generalize wn.drewN nq = w5 at hs hk ⊢
  clear HS HK
  obtain ⟨c0, c1, c4, f4, z0, z1, z2, z3⟩ := hs.cells
  have HS := Aside0.mk hs
  clear hs
  have HK := Aside0.mk hk
  clear hk
  have he := HE.out
  rw [Int.toNat_natCast] at he
  replace HE := Aside0.mk he
  clear he
  go_wp2_with (go_at_call 43; (with_reducible refine (asked_calls (no := no) HS.out.mem HS.out.below hl (by omega) ht (by omega)).mono ?_); rintro e' w6 ⟨rfl, hm6, hb6, hk6⟩; have HM6 := Aside0.mk hm6; have HB6 := Aside0.mk hb6; have HK6 := Aside0.mk hk6; clear hm6 hb6 hk6)
  go_ret
  exact in_done2 HM6.out HB6.out (HK.out.trans HK6.out) HE.out
set_option maxHeartbeats 2000000 in
theorem in_ok_a0 {w0 w : World} {g : Nat} {id rd he now k f n t : Int} {its : List S82} {s : ByteArray} (h : Mem w0.heap.size w g id its rd he now) (hb : Below w0.heap.size w0 w) (ht : 0 ≤ t ∧ t ≤ 1000000000) (hbad : badF k f n s = false) (hnow : ¬ t < now) (hid : id = 0) (hbey : mBeyond k n its = false) (hf : id = f) (hl : its.length ≤ 64) (hib : 0 ≤ id ∧ id ≤ 15) :
    Calls Try.prog 27 #[.pointer (some ⟨g, 0, none⟩), .agg #[.int .i64 k, .int .i64 f, .int .i64 n, .string s], .int .i64 t] w (InPost w0 w g id rd he (mIn id its now k f n s t)) := by
  have hn := bad_no hbad
  have HE0 : mIn id its now k f n s t = (if f = id then its else if k = 3 then mKnows its n.toNat t else if k = 1 then mData its n.toNat s t else mAsk id its n.toNat t, t, 0) := by unfold mIn; rw [if_neg (by omega), if_neg (by rw [hbad]; decide), if_neg hnow, if_neg (by rw [hbey]; simp)]
  have HE := Aside0.mk (show mIn id its now k f n s t = (its, t, 0) from by rw [HE0, if_pos hf.symm])
  clear HE0
  have HBAD := Aside0.mk (show cast_badNote.f k f n s = some false from by rw [bad_v, hbad])
  have HBEY := Aside0.mk hbey
  subst hf
  subst hid
  obtain ⟨v, hbox, hgb, hrow⟩ := h
  obtain ⟨A, c, rfl⟩ := Kd.R_slice hrow
  have HBOX := Aside0.mk hbox
  have HG := Aside0.mk hgb
  have HROW := Aside0.mk hrow
  have HB := Aside0.mk hb
  clear hbox hgb hrow hb
  have d1 : decide (t < 0) = false := decide_eq_false (by omega)
  have d2 : decide (1000000000 < t) = false := decide_eq_false (by omega)
  have d3 : decide (t < now) = false := decide_eq_false hnow
  obtain ⟨no, rfl⟩ : ∃ q : Nat, n = q := ⟨n.toNat, by omega⟩
  clear hbad hnow hbey
  go_enter Try.func27, Try.ntmps27
  go_upto_region 10 with (first | ((with_reducible refine gate_dst (N := 4) rfl ?_); refine box_event ?hg (N := 4) ?hd (cs := #[.int .i64 k, .int .i64 0, .int .i64 (no : Int), .string s]) (t := 56) ?hr ?_; (case hd => rfl); (case hg => rfl); (case hr => first | (go_simp; done) | (go_simp; rfl)); intro z hz_ wz zbox zb; clear hz_; have hs : MS w0 wz g z 0 (.slice A its.length c) its rd he now k 0 (no : Int) s := ⟨blk_below HBOX.out zb, HG.out, HROW.out.below zb, HB.out.trans (zb.mono HB.out.size), zbox⟩; have HK := Aside0.mk (KeepM.below zb); clear zb zbox; obtain ⟨c0, c1, c4, f4, z0, z1, z2, z3⟩ := hs.cells; have HS := Aside0.mk hs; clear hs) | (go_at_call 40; (with_reducible refine (cast_badNote.calls k 0 (no : Int) s _ _ HBAD.out).mono ?_); rintro e' wb ⟨rfl, hbb⟩; have hs := HS.out.on hbb; replace HK := Aside0.mk (HK.out.trans (KeepM.below hbb)); clear hbb HS; obtain ⟨c0, c1, c4, f4, z0, z1, z2, z3⟩ := hs.cells; have HS := Aside0.mk hs; clear hs) | (go_at_call 41; (with_reducible refine (beyond_calls (k := k) (f := 0) (n := (no : Int)) (s := s) HS.out.mem HS.out.below).mono ?_); rintro e' wy ⟨rfl, hby⟩; rw [HBEY.out]; have hs := HS.out.on hby; replace HK := Aside0.mk (HK.out.trans (KeepM.below hby)); clear hby HS; obtain ⟨c0, c1, c4, f4, z0, z1, z2, z3⟩ := hs.cells; have HS := Aside0.mk hs; clear hs))
  have hs := (HS.out.now_ t).1
  have hk := HK.out.trans (HS.out.now_ t).2
  generalize wy.setCell ⟨g, 4, none⟩ (.int .i64 t) = wn at hs hk ⊢
  clear HS HK
  obtain ⟨c0, c1, c4, f4, z0, z1, z2, z3⟩ := hs.cells
  have HS := Aside0.mk hs
  clear hs
  have HK := Aside0.mk hk
  clear hk
  go_quiet (fail)
  have hs := HS.out.on (pw_below_drewN (Below.refl wn.heap.size wn) nq)
  have hk := HK.out.trans (KeepM.below (pw_below_drewN (Below.refl wn.heap.size wn) nq))
  generalize wn.drewN nq = w5 at hs hk ⊢
  clear HS HK
  obtain ⟨c0, c1, c4, f4, z0, z1, z2, z3⟩ := hs.cells
  have HS := Aside0.mk hs
  clear hs
  have HK := Aside0.mk hk
  clear hk
  go_wp2
  go_ret
  exact in_done HS.out HK.out HE.out
set_option maxHeartbeats 2000000 in
theorem in_ok_b0 {w0 w : World} {g : Nat} {id rd he now k f n t : Int} {its : List S82} {s : ByteArray} (h : Mem w0.heap.size w g id its rd he now) (hb : Below w0.heap.size w0 w) (ht : 0 ≤ t ∧ t ≤ 1000000000) (hbad : badF k f n s = false) (hnow : ¬ t < now) (hid : id = 0) (hbey : mBeyond k n its = false) (hf : f ≠ id) (hk : k = 3) (hl : its.length ≤ 64) (hib : 0 ≤ id ∧ id ≤ 15) :
    Calls Try.prog 27 #[.pointer (some ⟨g, 0, none⟩), .agg #[.int .i64 k, .int .i64 f, .int .i64 n, .string s], .int .i64 t] w (InPost w0 w g id rd he (mIn id its now k f n s t)) := by
  have hn := bad_no hbad
  have HE0 : mIn id its now k f n s t = (if f = id then its else if k = 3 then mKnows its n.toNat t else if k = 1 then mData its n.toNat s t else mAsk id its n.toNat t, t, 0) := by unfold mIn; rw [if_neg (by omega), if_neg (by rw [hbad]; decide), if_neg hnow, if_neg (by rw [hbey]; simp)]
  have HE := Aside0.mk (show mIn id its now k f n s t = (mKnows its n.toNat t, t, 0) from by rw [HE0, if_neg hf, if_pos hk])
  clear HE0
  have HBAD := Aside0.mk (show cast_badNote.f k f n s = some false from by rw [bad_v, hbad])
  have d5 : (f == id) = false := by simpa using hf
  have HBEY := Aside0.mk hbey
  subst hid
  subst hk
  obtain ⟨v, hbox, hgb, hrow⟩ := h
  obtain ⟨A, c, rfl⟩ := Kd.R_slice hrow
  have HBOX := Aside0.mk hbox
  have HG := Aside0.mk hgb
  have HROW := Aside0.mk hrow
  have HB := Aside0.mk hb
  clear hbox hgb hrow hb
  have d1 : decide (t < 0) = false := decide_eq_false (by omega)
  have d2 : decide (1000000000 < t) = false := decide_eq_false (by omega)
  have d3 : decide (t < now) = false := decide_eq_false hnow
  obtain ⟨no, rfl⟩ : ∃ q : Nat, n = q := ⟨n.toNat, by omega⟩
  clear hbad hnow hbey hf
  go_enter Try.func27, Try.ntmps27
  go_upto_region 10 with (first | ((with_reducible refine gate_dst (N := 4) rfl ?_); refine box_event ?hg (N := 4) ?hd (cs := #[.int .i64 3, .int .i64 f, .int .i64 (no : Int), .string s]) (t := 56) ?hr ?_; (case hd => rfl); (case hg => rfl); (case hr => first | (go_simp; done) | (go_simp; rfl)); intro z hz_ wz zbox zb; clear hz_; have hs : MS w0 wz g z 0 (.slice A its.length c) its rd he now 3 f (no : Int) s := ⟨blk_below HBOX.out zb, HG.out, HROW.out.below zb, HB.out.trans (zb.mono HB.out.size), zbox⟩; have HK := Aside0.mk (KeepM.below zb); clear zb zbox; obtain ⟨c0, c1, c4, f4, z0, z1, z2, z3⟩ := hs.cells; have HS := Aside0.mk hs; clear hs) | (go_at_call 40; (with_reducible refine (cast_badNote.calls 3 f (no : Int) s _ _ HBAD.out).mono ?_); rintro e' wb ⟨rfl, hbb⟩; have hs := HS.out.on hbb; replace HK := Aside0.mk (HK.out.trans (KeepM.below hbb)); clear hbb HS; obtain ⟨c0, c1, c4, f4, z0, z1, z2, z3⟩ := hs.cells; have HS := Aside0.mk hs; clear hs) | (go_at_call 41; (with_reducible refine (beyond_calls (k := 3) (f := f) (n := (no : Int)) (s := s) HS.out.mem HS.out.below).mono ?_); rintro e' wy ⟨rfl, hby⟩; rw [HBEY.out]; have hs := HS.out.on hby; replace HK := Aside0.mk (HK.out.trans (KeepM.below hby)); clear hby HS; obtain ⟨c0, c1, c4, f4, z0, z1, z2, z3⟩ := hs.cells; have HS := Aside0.mk hs; clear hs))
  have hs := (HS.out.now_ t).1
  have hk := HK.out.trans (HS.out.now_ t).2
  generalize wy.setCell ⟨g, 4, none⟩ (.int .i64 t) = wn at hs hk ⊢
  clear HS HK
  obtain ⟨c0, c1, c4, f4, z0, z1, z2, z3⟩ := hs.cells
  have HS := Aside0.mk hs
  clear hs
  have HK := Aside0.mk hk
  clear hk
  go_quiet (fail)
  have hs := HS.out.on (pw_below_drewN (Below.refl wn.heap.size wn) nq)
  have hk := HK.out.trans (KeepM.below (pw_below_drewN (Below.refl wn.heap.size wn) nq))
  generalize wn.drewN nq = w5 at hs hk ⊢
  clear HS HK
  obtain ⟨c0, c1, c4, f4, z0, z1, z2, z3⟩ := hs.cells
  have HS := Aside0.mk hs
  clear hs
  have HK := Aside0.mk hk
  clear hk
  have he := HE.out
  rw [Int.toNat_natCast] at he
  replace HE := Aside0.mk he
  clear he
  go_wp2_with (go_at_call 42; (with_reducible refine (knows_calls (m := no) rfl HS.out.mem HS.out.below hl (by omega)).mono ?_); rintro e' w6 ⟨rfl, hm6, hb6, hk6⟩; have HM6 := Aside0.mk hm6; have HB6 := Aside0.mk hb6; have HK6 := Aside0.mk hk6; clear hm6 hb6 hk6)
  go_ret
  exact in_done2 HM6.out HB6.out (HK.out.trans HK6.out) HE.out
set_option maxHeartbeats 2000000 in
theorem in_ok_c0 {w0 w : World} {g : Nat} {id rd he now k f n t : Int} {its : List S82} {s : ByteArray} (h : Mem w0.heap.size w g id its rd he now) (hb : Below w0.heap.size w0 w) (ht : 0 ≤ t ∧ t ≤ 1000000000) (hbad : badF k f n s = false) (hnow : ¬ t < now) (hid : id = 0) (hbey : mBeyond k n its = false) (hf : f ≠ id) (hk : k = 1) (hl : its.length ≤ 64) (hib : 0 ≤ id ∧ id ≤ 15) :
    Calls Try.prog 27 #[.pointer (some ⟨g, 0, none⟩), .agg #[.int .i64 k, .int .i64 f, .int .i64 n, .string s], .int .i64 t] w (InPost w0 w g id rd he (mIn id its now k f n s t)) := by
  have hn := bad_no hbad
  have HE0 : mIn id its now k f n s t = (if f = id then its else if k = 3 then mKnows its n.toNat t else if k = 1 then mData its n.toNat s t else mAsk id its n.toNat t, t, 0) := by unfold mIn; rw [if_neg (by omega), if_neg (by rw [hbad]; decide), if_neg hnow, if_neg (by rw [hbey]; simp)]
  have HE := Aside0.mk (show mIn id its now k f n s t = (mData its n.toNat s t, t, 0) from by rw [HE0, if_neg hf, if_neg (by omega), if_pos hk])
  clear HE0
  have HBAD := Aside0.mk (show cast_badNote.f k f n s = some false from by rw [bad_v, hbad])
  have d5 : (f == id) = false := by simpa using hf
  have HBEY := Aside0.mk hbey
  subst hid
  subst hk
  obtain ⟨v, hbox, hgb, hrow⟩ := h
  obtain ⟨A, c, rfl⟩ := Kd.R_slice hrow
  have HBOX := Aside0.mk hbox
  have HG := Aside0.mk hgb
  have HROW := Aside0.mk hrow
  have HB := Aside0.mk hb
  clear hbox hgb hrow hb
  have d1 : decide (t < 0) = false := decide_eq_false (by omega)
  have d2 : decide (1000000000 < t) = false := decide_eq_false (by omega)
  have d3 : decide (t < now) = false := decide_eq_false hnow
  obtain ⟨no, rfl⟩ : ∃ q : Nat, n = q := ⟨n.toNat, by omega⟩
  clear hbad hnow hbey hf
  go_enter Try.func27, Try.ntmps27
  go_upto_region 10 with (first | ((with_reducible refine gate_dst (N := 4) rfl ?_); refine box_event ?hg (N := 4) ?hd (cs := #[.int .i64 1, .int .i64 f, .int .i64 (no : Int), .string s]) (t := 56) ?hr ?_; (case hd => rfl); (case hg => rfl); (case hr => first | (go_simp; done) | (go_simp; rfl)); intro z hz_ wz zbox zb; clear hz_; have hs : MS w0 wz g z 0 (.slice A its.length c) its rd he now 1 f (no : Int) s := ⟨blk_below HBOX.out zb, HG.out, HROW.out.below zb, HB.out.trans (zb.mono HB.out.size), zbox⟩; have HK := Aside0.mk (KeepM.below zb); clear zb zbox; obtain ⟨c0, c1, c4, f4, z0, z1, z2, z3⟩ := hs.cells; have HS := Aside0.mk hs; clear hs) | (go_at_call 40; (with_reducible refine (cast_badNote.calls 1 f (no : Int) s _ _ HBAD.out).mono ?_); rintro e' wb ⟨rfl, hbb⟩; have hs := HS.out.on hbb; replace HK := Aside0.mk (HK.out.trans (KeepM.below hbb)); clear hbb HS; obtain ⟨c0, c1, c4, f4, z0, z1, z2, z3⟩ := hs.cells; have HS := Aside0.mk hs; clear hs) | (go_at_call 41; (with_reducible refine (beyond_calls (k := 1) (f := f) (n := (no : Int)) (s := s) HS.out.mem HS.out.below).mono ?_); rintro e' wy ⟨rfl, hby⟩; rw [HBEY.out]; have hs := HS.out.on hby; replace HK := Aside0.mk (HK.out.trans (KeepM.below hby)); clear hby HS; obtain ⟨c0, c1, c4, f4, z0, z1, z2, z3⟩ := hs.cells; have HS := Aside0.mk hs; clear hs))
  have hs := (HS.out.now_ t).1
  have hk := HK.out.trans (HS.out.now_ t).2
  generalize wy.setCell ⟨g, 4, none⟩ (.int .i64 t) = wn at hs hk ⊢
  clear HS HK
  obtain ⟨c0, c1, c4, f4, z0, z1, z2, z3⟩ := hs.cells
  have HS := Aside0.mk hs
  clear hs
  have HK := Aside0.mk hk
  clear hk
  go_quiet (fail)
  have hs := HS.out.on (pw_below_drewN (Below.refl wn.heap.size wn) nq)
  have hk := HK.out.trans (KeepM.below (pw_below_drewN (Below.refl wn.heap.size wn) nq))
  generalize wn.drewN nq = w5 at hs hk ⊢
  clear HS HK
  obtain ⟨c0, c1, c4, f4, z0, z1, z2, z3⟩ := hs.cells
  have HS := Aside0.mk hs
  clear hs
  have HK := Aside0.mk hk
  clear hk
  have he := HE.out
  rw [Int.toNat_natCast] at he
  replace HE := Aside0.mk he
  clear he
  have hll := mKnows_len its (no + 1) t
  have hno : no < (mKnows its (no + 1) t).length := by omega
  obtain ⟨l, hle⟩ : ∃ x, mKnows its (no + 1) t = x := ⟨_, rfl⟩
  have he := HE.out
  unfold mData at he
  rw [hle] at he hno
  replace HE := Aside0.mk he
  have HLE := Aside0.mk hle
  clear he hle hll
  go_upto_region 17 with (go_at_call 42; (with_reducible refine (knows_calls (m := no + 1) (by omega) HS.out.mem HS.out.below hl (by omega)).mono ?_); rintro e' w6 ⟨rfl, hm6, hb6, hk6⟩; rw [HLE.out] at hm6; have HM6 := Aside0.mk hm6; have HB6 := Aside0.mk hb6; have HK6 := Aside0.mk hk6; clear hm6 hb6 hk6)
  obtain ⟨v6, hbox6, hge6, hrow6⟩ := HM6.out
  obtain ⟨gb, c6, rfl, _⟩ := row_form hrow6 (by omega)
  have hs : MS w0 w6 g z 0 (.slice (some ⟨gb, 0, none⟩) l.length c6) l rd he t 1 f (no : Int) s := ⟨hbox6, hge6, hrow6, HB6.out, HK6.out.2 _ _ _ HS.out.zbox (by decide) (by decide)⟩
  have hk := HK.out.trans HK6.out
  clear hbox6 hge6 hrow6 HM6 HB6 HK6 HS HK c0 c1 c4 f4 z0 z1 z2 z3
  obtain ⟨c0, c1, c4, f4, z0, z1, z2, z3⟩ := hs.cells
  have HS := Aside0.mk hs
  clear hs
  have HK := Aside0.mk hk
  clear hk
  go_quiet (fail)
  have hs := HS.out.on (pw_below_drewN (Below.refl w6.heap.size w6) nq)
  have hk := HK.out.trans (KeepM.below (pw_below_drewN (Below.refl w6.heap.size w6) nq))
  generalize w6.drewN nq = w7 at hs hk ⊢
  clear HS HK
  obtain ⟨c0, c1, c4, f4, z0, z1, z2, z3⟩ := hs.cells
  have HS := Aside0.mk hs
  clear hs
  have HK := Aside0.mk hk
  clear hk
  obtain ⟨i0, i1, i2, i3, i4, fz⟩ := row_item HS.out.row hno
  have f3 := fz 3
  have f0 : w7.frozen? ⟨gb, no * 5, none⟩ = false := fz 0
  have f1 := fz 1
  clear fz
  obtain ⟨x, hx⟩ : ∃ x, item l no = x := ⟨_, rfl⟩
  rw [hx] at i0 i1 i2 i3 i4
  have he := HE.out
  rw [hx] at he
  replace HE := Aside0.mk he
  have HX := Aside0.mk hx
  obtain ⟨x0, x1, x2, x3, x4⟩ := x
  simp only at i0 i1 i2 i3 i4
  clear hx he
  cases x0 with
  | true =>
    go_wp2
    go_ret
    have hx := HX.out
    obtain ⟨a1, a2, a3, a4⟩ := mem_put (j := 3) (u := .int .i64 (-1)) (x := ⟨true, x1, x2, -1, x4⟩) HS.out.box HS.out.ge HS.out.row HS.out.below hno (by omega) (by rw [hx]; rfl)
    exact in_done2 ⟨_, by rw [List.length_set]; exact a1, HS.out.ge, a2⟩ a3 (HK.out.trans a4) (HE.out.trans (by simp))
  | false =>
    go_wp2
    go_region
    have hx := HX.out
    obtain ⟨a1, a2, a3, a4⟩ := mem_put2 (j := 0) (u := .bool true) (x := ⟨true, x1, x2, x3, x4⟩) HS.out.box HS.out.ge HS.out.row HS.out.below hno (by omega) (by rw [hx]; rfl)
    obtain ⟨b1, b2, b3, b4⟩ := mem_put2 (j := 1) (u := .string s) (x := ⟨true, s, x2, x3, x4⟩) a1 HS.out.ge a2 a3 (by rw [List.length_set]; exact hno) (by omega) (by rw [item_set hno]; rfl)
    have hk := HK.out.trans (a4.trans b4)
    rw [List.set_set] at b1 b2
    simp only [Nat.add_zero] at b1 b2 b3 hk
    have HG2 := Aside0.mk HS.out.ge
    clear a1 a2 a3 a4 b4 hx HS c0 c1 c4 f4 z0 z1 z2 z3 i0 i1 i2 i3 i4 f0 f1 f3
    generalize (w7.setCell ⟨gb, no * 5, none⟩ (.bool true)).setCell ⟨gb, no * 5 + 1, none⟩ (.string s) = w8 at b1 b2 b3 hk ⊢
    have hno2 : no < (l.set no (⟨true, s, x2, x3, x4⟩ : S82)).length := by rw [List.length_set]; exact hno
    obtain ⟨_, _, _, i3, _, fz⟩ := row_item b2 hno2
    have f3 := fz 3
    rw [item_set hno] at i3
    have B1 := Aside0.mk b1
    have B2 := Aside0.mk b2
    have B3 := Aside0.mk b3
    have HK8 := Aside0.mk hk
    clear b1 b2 b3 hk fz
    go_wp2
    go_ret
    obtain ⟨a1, a2, a3, a4⟩ := mem_put2 (w := w8.drew) (j := 3) (u := .int .i64 (-1)) (x := ⟨true, s, x2, -1, x4⟩) (blk_below B1.out (below_drew (Below.refl _ _))) HG2.out (B2.out.below (below_drew (Below.refl _ _))) (below_drew B3.out) hno2 (by omega) (by rw [item_set hno]; rfl)
    rw [List.set_set] at a1 a2
    exact in_done2 ⟨_, a1, HG2.out, a2⟩ a3 ((HK8.out.trans (KeepM.below (below_drew (Below.refl _ _)))).trans a4) (HE.out.trans (by simp))
set_option maxHeartbeats 2000000 in
theorem in_ok_d0 {w0 w : World} {g : Nat} {id rd he now k f n t : Int} {its : List S82} {s : ByteArray} (h : Mem w0.heap.size w g id its rd he now) (hb : Below w0.heap.size w0 w) (ht : 0 ≤ t ∧ t ≤ 1000000000) (hbad : badF k f n s = false) (hnow : ¬ t < now) (hid : id = 0) (hbey : mBeyond k n its = false) (hf : f ≠ id) (hk : k = 2) (hl : its.length ≤ 64) (hib : 0 ≤ id ∧ id ≤ 15) :
    Calls Try.prog 27 #[.pointer (some ⟨g, 0, none⟩), .agg #[.int .i64 k, .int .i64 f, .int .i64 n, .string s], .int .i64 t] w (InPost w0 w g id rd he (mIn id its now k f n s t)) := by
  have hn := bad_no hbad
  have HE0 : mIn id its now k f n s t = (if f = id then its else if k = 3 then mKnows its n.toNat t else if k = 1 then mData its n.toNat s t else mAsk id its n.toNat t, t, 0) := by unfold mIn; rw [if_neg (by omega), if_neg (by rw [hbad]; decide), if_neg hnow, if_neg (by rw [hbey]; simp)]
  have HE := Aside0.mk (show mIn id its now k f n s t = (mAsk id its n.toNat t, t, 0) from by rw [HE0, if_neg hf, if_neg (by omega), if_neg (by omega)])
  clear HE0
  have HBAD := Aside0.mk (show cast_badNote.f k f n s = some false from by rw [bad_v, hbad])
  have d5 : (f == id) = false := by simpa using hf
  have HBEY := Aside0.mk hbey
  subst hid
  subst hk
  obtain ⟨v, hbox, hgb, hrow⟩ := h
  obtain ⟨A, c, rfl⟩ := Kd.R_slice hrow
  have HBOX := Aside0.mk hbox
  have HG := Aside0.mk hgb
  have HROW := Aside0.mk hrow
  have HB := Aside0.mk hb
  clear hbox hgb hrow hb
  have d1 : decide (t < 0) = false := decide_eq_false (by omega)
  have d2 : decide (1000000000 < t) = false := decide_eq_false (by omega)
  have d3 : decide (t < now) = false := decide_eq_false hnow
  obtain ⟨no, rfl⟩ : ∃ q : Nat, n = q := ⟨n.toNat, by omega⟩
  clear hbad hnow hbey hf
  go_enter Try.func27, Try.ntmps27
  go_upto_region 10 with (first | ((with_reducible refine gate_dst (N := 4) rfl ?_); refine box_event ?hg (N := 4) ?hd (cs := #[.int .i64 2, .int .i64 f, .int .i64 (no : Int), .string s]) (t := 56) ?hr ?_; (case hd => rfl); (case hg => rfl); (case hr => first | (go_simp; done) | (go_simp; rfl)); intro z hz_ wz zbox zb; clear hz_; have hs : MS w0 wz g z 0 (.slice A its.length c) its rd he now 2 f (no : Int) s := ⟨blk_below HBOX.out zb, HG.out, HROW.out.below zb, HB.out.trans (zb.mono HB.out.size), zbox⟩; have HK := Aside0.mk (KeepM.below zb); clear zb zbox; obtain ⟨c0, c1, c4, f4, z0, z1, z2, z3⟩ := hs.cells; have HS := Aside0.mk hs; clear hs) | (go_at_call 40; (with_reducible refine (cast_badNote.calls 2 f (no : Int) s _ _ HBAD.out).mono ?_); rintro e' wb ⟨rfl, hbb⟩; have hs := HS.out.on hbb; replace HK := Aside0.mk (HK.out.trans (KeepM.below hbb)); clear hbb HS; obtain ⟨c0, c1, c4, f4, z0, z1, z2, z3⟩ := hs.cells; have HS := Aside0.mk hs; clear hs) | (go_at_call 41; (with_reducible refine (beyond_calls (k := 2) (f := f) (n := (no : Int)) (s := s) HS.out.mem HS.out.below).mono ?_); rintro e' wy ⟨rfl, hby⟩; rw [HBEY.out]; have hs := HS.out.on hby; replace HK := Aside0.mk (HK.out.trans (KeepM.below hby)); clear hby HS; obtain ⟨c0, c1, c4, f4, z0, z1, z2, z3⟩ := hs.cells; have HS := Aside0.mk hs; clear hs))
  have hs := (HS.out.now_ t).1
  have hk := HK.out.trans (HS.out.now_ t).2
  generalize wy.setCell ⟨g, 4, none⟩ (.int .i64 t) = wn at hs hk ⊢
  clear HS HK
  obtain ⟨c0, c1, c4, f4, z0, z1, z2, z3⟩ := hs.cells
  have HS := Aside0.mk hs
  clear hs
  have HK := Aside0.mk hk
  clear hk
  go_quiet (fail)
  have hs := HS.out.on (pw_below_drewN (Below.refl wn.heap.size wn) nq)
  have hk := HK.out.trans (KeepM.below (pw_below_drewN (Below.refl wn.heap.size wn) nq))
  generalize wn.drewN nq = w5 at hs hk ⊢
  clear HS HK
  obtain ⟨c0, c1, c4, f4, z0, z1, z2, z3⟩ := hs.cells
  have HS := Aside0.mk hs
  clear hs
  have HK := Aside0.mk hk
  clear hk
  have he := HE.out
  rw [Int.toNat_natCast] at he
  replace HE := Aside0.mk he
  clear he
  go_wp2_with (go_at_call 43; (with_reducible refine (asked_calls (no := no) HS.out.mem HS.out.below hl (by omega) ht (by omega)).mono ?_); rintro e' w6 ⟨rfl, hm6, hb6, hk6⟩; have HM6 := Aside0.mk hm6; have HB6 := Aside0.mk hb6; have HK6 := Aside0.mk hk6; clear hm6 hb6 hk6)
  go_ret
  exact in_done2 HM6.out HB6.out (HK.out.trans HK6.out) HE.out
theorem in_calls {w0 w : World} {g : Nat} {id rd he now k f n t : Int} {its : List S82} {s : ByteArray} (h : Mem w0.heap.size w g id its rd he now) (hb : Below w0.heap.size w0 w) (hl : its.length ≤ 64) (hib : 0 ≤ id ∧ id ≤ 15) :
    Calls Try.prog 27 #[.pointer (some ⟨g, 0, none⟩), .agg #[.int .i64 k, .int .i64 f, .int .i64 n, .string s], .int .i64 t] w (InPost w0 w g id rd he (mIn id its now k f n s t)) := by
  by_cases ht : t < 0 ∨ 1000000000 < t
  · exact in_arg h hb ht
  have ht2 : 0 ≤ t ∧ t ≤ 1000000000 := by omega
  by_cases hbad : badF k f n s = true
  · exact in_bad h hb ht2 hbad
  have hbad2 : badF k f n s = false := by simpa using hbad
  have hno := bad_no hbad2
  by_cases hnow : t < now
  · exact in_old h hb ht2 hbad2 hnow
  by_cases hid : id = 0
  · by_cases hbey : mBeyond k n its = true
    · exact in_range h hb ht2 hbad2 hnow hid hbey
    have hbey2 : mBeyond k n its = false := by simpa using hbey
    by_cases hf : id = f
    · exact in_ok_a0 h hb ht2 hbad2 hnow hid hbey2 hf hl hib
    have hf2 : f ≠ id := fun e => hf e.symm
    rcases (show k = 3 ∨ k = 1 ∨ k = 2 from by omega) with hk | hk | hk
    · exact in_ok_b0 h hb ht2 hbad2 hnow hid hbey2 hf2 hk hl hib
    · exact in_ok_c0 h hb ht2 hbad2 hnow hid hbey2 hf2 hk hl hib
    · exact in_ok_d0 h hb ht2 hbad2 hnow hid hbey2 hf2 hk hl hib
  · by_cases hf : id = f
    · exact in_ok_a1 h hb ht2 hbad2 hnow hid hf hl hib
    have hf2 : f ≠ id := fun e => hf e.symm
    rcases (show k = 3 ∨ k = 1 ∨ k = 2 from by omega) with hk | hk | hk
    · exact in_ok_b1 h hb ht2 hbad2 hnow hid hf2 hk hl hib
    · exact in_ok_c1 h hb ht2 hbad2 hnow hid hf2 hk hl hib
    · exact in_ok_d1 h hb ht2 hbad2 hnow hid hf2 hk hl hib
end Go.Proofs.Ytcllcjflgeiehaa.PCastPlays
