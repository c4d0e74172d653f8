/- Proved: what In of the reference's member does. -/
import Derived.Test.YtcllcjflgeiehaaBCastG
namespace Go.Proofs.Ytcllcjflgeiehaa.PCastPlays
open Go.RowKit Go.Proofs.YtcllcjflgeiehaaW.PrintWords Go.Proofs.YtcllcjflgeiehaaW.PrintLast Go.Proofs.YtcllcjflgeiehaaW.PrintMore
set_option linter.unusedVariables false
set_option linter.unusedSimpArgs false
set_option maxHeartbeats 4000000 in
set_option maxRecDepth 100000 in
theorem cin_a03 {w0 w : World} {v1 v2 v3 v4 v5 v6 : Value} {c : RC} {k f n t : Int} {s : ByteArray} {N : Nat} (h : Rws w0.heap.size w v1 v2 v3 v4 v5 v6 c) (hb : Below w0.heap.size w0 w) (hl : RLen c N) (hN : N ≤ 64) (hib : 0 ≤ c.id ∧ c.id ≤ 15) (ht : 0 ≤ t ∧ t ≤ 1000000000) (hbad : badF k f n s = false) (hnow : ¬ t < c.now) (hf : f = c.id) (hid : c.id = 0) (hm : ¬ (c.th.length : Int) < (if k = 3 then n else n + 1)) (hk3 : k = 3) :
    Calls Try.prog 26 #[cv c v1 v2 v3 v4 v5 v6, .agg #[.int .i64 k, .int .i64 f, .int .i64 n, .string s], .int .i64 t] w (CInPost w0 w (rIn c k f n s t)) := by
  obtain ⟨A1, k1, rfl⟩ := Kd.R_slice h.r1
  have HROW := Aside0.mk h
  have HB := Aside0.mk hb
  have HL := Aside0.mk hl
  have hlt : c.th.length ≤ 64 := by rw [hl.th]; exact hN
  have HIB := Aside0.mk hib
  clear h hb hl hib
  have HE := Aside0.mk (show rIn c k f n s t = (if f = c.id then ({ c with now := t }, 0) else (rOk (rGrow { c with now := t } (if k = 3 then n.toNat else n.toNat + 1) t) k n.toNat s t, 0)) from by unfold rIn; rw [if_neg (by omega), if_neg (by rw [hbad]; decide), if_neg hnow, if_neg (fun q => hm q.2)])
  have HIN := Aside0.mk (show patchbayref3_In.f t 0 1000000000 = some true from by rw [in_v]; congr 1; exact decide_eq_true (by omega))
  have HNF := Aside0.mk (show patchbayref3_NoteFault.f k f n s = some false from by rw [nf_v, hbad])
  have hn := bad_no hbad
  have d3 : decide (t < c.now) = false := decide_eq_false hnow
  have d4 : (c.id == 0) = true := by simpa using hid
  have hE := HE.out
  rw [if_pos hf] at hE
  replace HE := Aside0.mk hE
  have HF := Aside0.mk hf
  clear hE
  have d6 : (k == 3) = true := by simpa using hk3
  rw [if_pos hk3] at hm
  have d5 : decide ((c.th.length : Int) < n) = false := decide_eq_false hm
  have d7 : (f == c.id) = true := by simpa using HF.out
  clear ht hbad hnow hid hk3 hf HF hm
  go_enter Try.func26, Try.ntmps26
  go_upto_region 1 with (first | ((with_reducible refine gate_dst (N := 3) rfl ?_); refine box_event ?hg (N := 3) ?hd (cs := #[.int .i64 c.id, .slice A1 c.th.length k1, v2, v3, v4, v5, v6, .int .i64 c.he, .int .i64 c.now, .int .i64 c.rd]) (t := 54) ?hr ?_; (case hd => rfl); (case hg => rfl); (case hr => first | (go_simp; done) | (go_simp; rfl)); intro z3 hz3 w3 q3 b3; have HZ3 := Aside0.mk (And.intro hz3 (And.intro q3 b3)); clear hz3 q3 b3) | ((with_reducible refine gate_dst (N := 4) rfl ?_); refine box_event ?hg (N := 4) ?hd (cs := #[.int .i64 k, .int .i64 f, .int .i64 n, .string s]) (t := 56) ?hr ?_; (case hd => rfl); (case hg => rfl); (case hr => first | (go_simp; done) | (go_simp; rfl)); intro z4 hz4 w4 q4 b4; have HZ4 := Aside0.mk (And.intro hz4 (And.intro q4 b4)); clear hz4 q4 b4) | ((with_reducible refine gate_dst (N := 6) rfl ?_); refine box_event ?hg (N := 6) ?hd (cs := zb54) (t := 54) ?hr ?_; (case hd => rfl); (case hg => rfl); (case hr => first | (go_simp; done) | (go_simp; rfl)); intro z6 hz6 w6 q6 b6; have HZ6 := Aside0.mk (And.intro hz6 (And.intro q6 b6)); clear hz6 q6 b6))
  obtain ⟨hz3, q3, b3⟩ := HZ3.out
  obtain ⟨hz4, q4, b4⟩ := HZ4.out
  obtain ⟨hz6, q6, b6⟩ := HZ6.out
  have hs : CI w0 w w6 z3 z4 z6 c (.slice A1 c.th.length k1) v2 v3 v4 v5 v6 zb54 k f n s :=
    ⟨blk_below (blk_below q3 b4) b6, blk_below q4 b6, q6, rfl, fun e => by have := blk_lt q3; have := b4.size; omega, by omega, by have := b3.size; have := b4.size; omega, HB.out.size, ((HROW.out.below b3).below b4).below b6, HB.out.trans ((b3.trans ((b4.trans (b6.mono b4.size)).mono b3.size)).mono HB.out.size), KeepC.below (b3.trans ((b4.trans (b6.mono b4.size)).mono b3.size))⟩
  clear HZ3 HZ4 HZ6 hz3 q3 b3 hz4 q4 b4 hz6 q6 b6
  obtain ⟨c0, c1, c3, c4, c5, c6, c8, f8, n0, n1, n2, n3⟩ := hs.cells
  have HS := Aside0.mk hs
  clear hs
  go_upto_region 12 with (first | (go_at_call 7; (with_reducible refine (patchbayref3_In.calls t 0 1000000000 _ _ HIN.out).mono ?_); rintro e' wi ⟨rfl, hdi⟩; have hs := HS.out.on hdi.below; clear hdi HS; obtain ⟨c0, c1, c3, c4, c5, c6, c8, f8, n0, n1, n2, n3⟩ := hs.cells; have HS := Aside0.mk hs; clear hs) | (go_at_call 39; (with_reducible refine (patchbayref3_NoteFault.calls k f n s _ _ HNF.out).mono ?_); rintro e' wf ⟨rfl, hdf⟩; have hs := HS.out.on hdf; clear hdf HS; obtain ⟨c0, c1, c3, c4, c5, c6, c8, f8, n0, n1, n2, n3⟩ := hs.cells; have HS := Aside0.mk hs; clear hs))
  go_upto_region 13 with (first | ((with_reducible refine gate_ (.load 54 (.tmp 3)) rfl ?_); refine load54 rfl (.tmp 3) rfl z3 rfl _ HS.out.b3 rfl ?_) | (go_at_call 37; (with_reducible refine (copied_calls HS.out.rows HL.out (by omega)).mono ?_); rintro e' wc ⟨u1, u2, u3, u4, u5, u6, rfl, hr, hbc⟩; have hs := HS.out.on hbc; have HR := Aside0.mk (hr.lower HS.out.below.size); clear hr hbc HS; obtain ⟨c0, c1, c3, c4, c5, c6, c8, f8, n0, n1, n2, n3⟩ := hs.cells; have HS := Aside0.mk hs; clear hs) | ((with_reducible refine gate_store (t := 54) (p := 3) rfl ?_); refine store54 rfl rfl (.tmp 3) _ rfl z3 rfl _ _ rfl HS.out.b3 rfl rfl (cb_one HR.out) ?_; intro w9 hp; have hs := HS.out.put3 HR.out hp; clear hp HS HR; obtain ⟨c0, c1, c3, c4, c5, c6, c8, f8, n0, n1, n2, n3⟩ := hs.cells; have HS := Aside0.mk hs; clear hs))
  go_upto_region 14 with fail
  have hs := HS.out.now_ t
  generalize w9.setCell ⟨z3, 8, none⟩ (.int .i64 t) = wn at hs ⊢
  obtain ⟨d, hd⟩ : ∃ d : RC, { c with now := t } = d := ⟨_, rfl⟩
  rw [hd] at hs
  have HLD := Aside0.mk (show RLen d N from by rw [← hd]; exact ⟨HL.out.th, HL.out.fr, HL.out.wt, HL.out.bd, HL.out.ak, HL.out.rp⟩)
  have d8 : (f == d.id) = true := by rw [← hd]; exact d7
  have HID := Aside0.mk (show 0 ≤ d.id ∧ d.id ≤ 15 from by rw [← hd]; exact HIB.out)
  have hE := HE.out
  rw [hd] at hE
  replace HE := Aside0.mk hE
  clear HS hd hE c0 c1 c3 c4 c5 c6 c8 f8 n0 n1 n2 n3
  obtain ⟨c0, c1, c3, c4, c5, c6, c8, f8, n0, n1, n2, n3⟩ := hs.cells
  have HS := Aside0.mk hs
  clear hs
  go_wp2_with (first | ((with_reducible refine gate_ (.load 54 (.tmp 3)) rfl ?_); refine load54 rfl (.tmp 3) rfl z3 rfl _ HS.out.b3 rfl ?_) | ((with_reducible refine gate_store (t := 54) (p := 6) rfl ?_); refine store54 rfl rfl (.tmp 6) _ rfl z6 rfl _ _ rfl HS.out.b6 HS.out.sz rfl (cb_one HS.out.rows) ?_; intro w9 hp; have hs := HS.out.put6 hp rfl; clear hp HS; obtain ⟨c0, c1, c3, c4, c5, c6, c8, f8, n0, n1, n2, n3⟩ := hs.cells; have HS := Aside0.mk hs; clear hs))
  refine bodyPost_ret (results_ct rfl _ _ z6 54 _ (0, 0) _ rfl HS.out.b6 Try.underlying54 rfl size54) rfl ?_
  exact cin_done HS.out HE.out
set_option maxHeartbeats 4000000 in
set_option maxRecDepth 100000 in
theorem cin_a0 {w0 w : World} {v1 v2 v3 v4 v5 v6 : Value} {c : RC} {k f n t : Int} {s : ByteArray} {N : Nat} (h : Rws w0.heap.size w v1 v2 v3 v4 v5 v6 c) (hb : Below w0.heap.size w0 w) (hl : RLen c N) (hN : N ≤ 64) (hib : 0 ≤ c.id ∧ c.id ≤ 15) (ht : 0 ≤ t ∧ t ≤ 1000000000) (hbad : badF k f n s = false) (hnow : ¬ t < c.now) (hf : f = c.id) (hid : c.id = 0) (hm : ¬ (c.th.length : Int) < (if k = 3 then n else n + 1)) (hk3 : k ≠ 3) :
    Calls Try.prog 26 #[cv c v1 v2 v3 v4 v5 v6, .agg #[.int .i64 k, .int .i64 f, .int .i64 n, .string s], .int .i64 t] w (CInPost w0 w (rIn c k f n s t)) := by
  obtain ⟨A1, k1, rfl⟩ := Kd.R_slice h.r1
  have HROW := Aside0.mk h
  have HB := Aside0.mk hb
  have HL := Aside0.mk hl
  have hlt : c.th.length ≤ 64 := by rw [hl.th]; exact hN
  have HIB := Aside0.mk hib
  clear h hb hl hib
  have HE := Aside0.mk (show rIn c k f n s t = (if f = c.id then ({ c with now := t }, 0) else (rOk (rGrow { c with now := t } (if k = 3 then n.toNat else n.toNat + 1) t) k n.toNat s t, 0)) from by unfold rIn; rw [if_neg (by omega), if_neg (by rw [hbad]; decide), if_neg hnow, if_neg (fun q => hm q.2)])
  have HIN := Aside0.mk (show patchbayref3_In.f t 0 1000000000 = some true from by rw [in_v]; congr 1; exact decide_eq_true (by omega))
  have HNF := Aside0.mk (show patchbayref3_NoteFault.f k f n s = some false from by rw [nf_v, hbad])
  have hn := bad_no hbad
  have d3 : decide (t < c.now) = false := decide_eq_false hnow
  have d4 : (c.id == 0) = true := by simpa using hid
  have hE := HE.out
  rw [if_pos hf] at hE
  replace HE := Aside0.mk hE
  have HF := Aside0.mk hf
  clear hE
  have d6 : (k == 3) = false := by simpa using hk3
  rw [if_neg hk3] at hm
  have d5 : decide ((c.th.length : Int) < n + 1) = false := decide_eq_false hm
  have d7 : (f == c.id) = true := by simpa using HF.out
  clear ht hbad hnow hid hk3 hf HF hm
  go_enter Try.func26, Try.ntmps26
  go_upto_region 1 with (first | ((with_reducible refine gate_dst (N := 3) rfl ?_); refine box_event ?hg (N := 3) ?hd (cs := #[.int .i64 c.id, .slice A1 c.th.length k1, v2, v3, v4, v5, v6, .int .i64 c.he, .int .i64 c.now, .int .i64 c.rd]) (t := 54) ?hr ?_; (case hd => rfl); (case hg => rfl); (case hr => first | (go_simp; done) | (go_simp; rfl)); intro z3 hz3 w3 q3 b3; have HZ3 := Aside0.mk (And.intro hz3 (And.intro q3 b3)); clear hz3 q3 b3) | ((with_reducible refine gate_dst (N := 4) rfl ?_); refine box_event ?hg (N := 4) ?hd (cs := #[.int .i64 k, .int .i64 f, .int .i64 n, .string s]) (t := 56) ?hr ?_; (case hd => rfl); (case hg => rfl); (case hr => first | (go_simp; done) | (go_simp; rfl)); intro z4 hz4 w4 q4 b4; have HZ4 := Aside0.mk (And.intro hz4 (And.intro q4 b4)); clear hz4 q4 b4) | ((with_reducible refine gate_dst (N := 6) rfl ?_); refine box_event ?hg (N := 6) ?hd (cs := zb54) (t := 54) ?hr ?_; (case hd => rfl); (case hg => rfl); (case hr => first | (go_simp; done) | (go_simp; rfl)); intro z6 hz6 w6 q6 b6; have HZ6 := Aside0.mk (And.intro hz6 (And.intro q6 b6)); clear hz6 q6 b6))
  obtain ⟨hz3, q3, b3⟩ := HZ3.out
  obtain ⟨hz4, q4, b4⟩ := HZ4.out
  obtain ⟨hz6, q6, b6⟩ := HZ6.out
  have hs : CI w0 w w6 z3 z4 z6 c (.slice A1 c.th.length k1) v2 v3 v4 v5 v6 zb54 k f n s :=
    ⟨blk_below (blk_below q3 b4) b6, blk_below q4 b6, q6, rfl, fun e => by have := blk_lt q3; have := b4.size; omega, by omega, by have := b3.size; have := b4.size; omega, HB.out.size, ((HROW.out.below b3).below b4).below b6, HB.out.trans ((b3.trans ((b4.trans (b6.mono b4.size)).mono b3.size)).mono HB.out.size), KeepC.below (b3.trans ((b4.trans (b6.mono b4.size)).mono b3.size))⟩
  clear HZ3 HZ4 HZ6 hz3 q3 b3 hz4 q4 b4 hz6 q6 b6
  obtain ⟨c0, c1, c3, c4, c5, c6, c8, f8, n0, n1, n2, n3⟩ := hs.cells
  have HS := Aside0.mk hs
  clear hs
  go_upto_region 12 with (first | (go_at_call 7; (with_reducible refine (patchbayref3_In.calls t 0 1000000000 _ _ HIN.out).mono ?_); rintro e' wi ⟨rfl, hdi⟩; have hs := HS.out.on hdi.below; clear hdi HS; obtain ⟨c0, c1, c3, c4, c5, c6, c8, f8, n0, n1, n2, n3⟩ := hs.cells; have HS := Aside0.mk hs; clear hs) | (go_at_call 39; (with_reducible refine (patchbayref3_NoteFault.calls k f n s _ _ HNF.out).mono ?_); rintro e' wf ⟨rfl, hdf⟩; have hs := HS.out.on hdf; clear hdf HS; obtain ⟨c0, c1, c3, c4, c5, c6, c8, f8, n0, n1, n2, n3⟩ := hs.cells; have HS := Aside0.mk hs; clear hs))
  go_upto_region 13 with (first | ((with_reducible refine gate_ (.load 54 (.tmp 3)) rfl ?_); refine load54 rfl (.tmp 3) rfl z3 rfl _ HS.out.b3 rfl ?_) | (go_at_call 37; (with_reducible refine (copied_calls HS.out.rows HL.out (by omega)).mono ?_); rintro e' wc ⟨u1, u2, u3, u4, u5, u6, rfl, hr, hbc⟩; have hs := HS.out.on hbc; have HR := Aside0.mk (hr.lower HS.out.below.size); clear hr hbc HS; obtain ⟨c0, c1, c3, c4, c5, c6, c8, f8, n0, n1, n2, n3⟩ := hs.cells; have HS := Aside0.mk hs; clear hs) | ((with_reducible refine gate_store (t := 54) (p := 3) rfl ?_); refine store54 rfl rfl (.tmp 3) _ rfl z3 rfl _ _ rfl HS.out.b3 rfl rfl (cb_one HR.out) ?_; intro w9 hp; have hs := HS.out.put3 HR.out hp; clear hp HS HR; obtain ⟨c0, c1, c3, c4, c5, c6, c8, f8, n0, n1, n2, n3⟩ := hs.cells; have HS := Aside0.mk hs; clear hs))
  go_upto_region 14 with fail
  have hs := HS.out.now_ t
  generalize w9.setCell ⟨z3, 8, none⟩ (.int .i64 t) = wn at hs ⊢
  obtain ⟨d, hd⟩ : ∃ d : RC, { c with now := t } = d := ⟨_, rfl⟩
  rw [hd] at hs
  have HLD := Aside0.mk (show RLen d N from by rw [← hd]; exact ⟨HL.out.th, HL.out.fr, HL.out.wt, HL.out.bd, HL.out.ak, HL.out.rp⟩)
  have d8 : (f == d.id) = true := by rw [← hd]; exact d7
  have HID := Aside0.mk (show 0 ≤ d.id ∧ d.id ≤ 15 from by rw [← hd]; exact HIB.out)
  have hE := HE.out
  rw [hd] at hE
  replace HE := Aside0.mk hE
  clear HS hd hE c0 c1 c3 c4 c5 c6 c8 f8 n0 n1 n2 n3
  obtain ⟨c0, c1, c3, c4, c5, c6, c8, f8, n0, n1, n2, n3⟩ := hs.cells
  have HS := Aside0.mk hs
  clear hs
  go_wp2_with (first | ((with_reducible refine gate_ (.load 54 (.tmp 3)) rfl ?_); refine load54 rfl (.tmp 3) rfl z3 rfl _ HS.out.b3 rfl ?_) | ((with_reducible refine gate_store (t := 54) (p := 6) rfl ?_); refine store54 rfl rfl (.tmp 6) _ rfl z6 rfl _ _ rfl HS.out.b6 HS.out.sz rfl (cb_one HS.out.rows) ?_; intro w9 hp; have hs := HS.out.put6 hp rfl; clear hp HS; obtain ⟨c0, c1, c3, c4, c5, c6, c8, f8, n0, n1, n2, n3⟩ := hs.cells; have HS := Aside0.mk hs; clear hs))
  refine bodyPost_ret (results_ct rfl _ _ z6 54 _ (0, 0) _ rfl HS.out.b6 Try.underlying54 rfl size54) rfl ?_
  exact cin_done HS.out HE.out
set_option maxHeartbeats 4000000 in
set_option maxRecDepth 100000 in
theorem cin_a13 {w0 w : World} {v1 v2 v3 v4 v5 v6 : Value} {c : RC} {k f n t : Int} {s : ByteArray} {N : Nat} (h : Rws w0.heap.size w v1 v2 v3 v4 v5 v6 c) (hb : Below w0.heap.size w0 w) (hl : RLen c N) (hN : N ≤ 64) (hib : 0 ≤ c.id ∧ c.id ≤ 15) (ht : 0 ≤ t ∧ t ≤ 1000000000) (hbad : badF k f n s = false) (hnow : ¬ t < c.now) (hf : f = c.id) (hid : c.id ≠ 0) (hk3 : k = 3) :
    Calls Try.prog 26 #[cv c v1 v2 v3 v4 v5 v6, .agg #[.int .i64 k, .int .i64 f, .int .i64 n, .string s], .int .i64 t] w (CInPost w0 w (rIn c k f n s t)) := by
  obtain ⟨A1, k1, rfl⟩ := Kd.R_slice h.r1
  have HROW := Aside0.mk h
  have HB := Aside0.mk hb
  have HL := Aside0.mk hl
  have hlt : c.th.length ≤ 64 := by rw [hl.th]; exact hN
  have HIB := Aside0.mk hib
  clear h hb hl hib
  have HE := Aside0.mk (show rIn c k f n s t = (if f = c.id then ({ c with now := t }, 0) else (rOk (rGrow { c with now := t } (if k = 3 then n.toNat else n.toNat + 1) t) k n.toNat s t, 0)) from by unfold rIn; rw [if_neg (by omega), if_neg (by rw [hbad]; decide), if_neg hnow, if_neg (fun q => hid q.1)])
  have HIN := Aside0.mk (show patchbayref3_In.f t 0 1000000000 = some true from by rw [in_v]; congr 1; exact decide_eq_true (by omega))
  have HNF := Aside0.mk (show patchbayref3_NoteFault.f k f n s = some false from by rw [nf_v, hbad])
  have hn := bad_no hbad
  have d3 : decide (t < c.now) = false := decide_eq_false hnow
  have d4 : (c.id == 0) = false := by simpa using hid
  have hE := HE.out
  rw [if_pos hf] at hE
  replace HE := Aside0.mk hE
  have HF := Aside0.mk hf
  clear hE
  have d6 : (k == 3) = true := by simpa using hk3
  have d7 : (f == c.id) = true := by simpa using HF.out
  clear ht hbad hnow hid hk3 hf HF
  go_enter Try.func26, Try.ntmps26
  go_upto_region 1 with (first | ((with_reducible refine gate_dst (N := 3) rfl ?_); refine box_event ?hg (N := 3) ?hd (cs := #[.int .i64 c.id, .slice A1 c.th.length k1, v2, v3, v4, v5, v6, .int .i64 c.he, .int .i64 c.now, .int .i64 c.rd]) (t := 54) ?hr ?_; (case hd => rfl); (case hg => rfl); (case hr => first | (go_simp; done) | (go_simp; rfl)); intro z3 hz3 w3 q3 b3; have HZ3 := Aside0.mk (And.intro hz3 (And.intro q3 b3)); clear hz3 q3 b3) | ((with_reducible refine gate_dst (N := 4) rfl ?_); refine box_event ?hg (N := 4) ?hd (cs := #[.int .i64 k, .int .i64 f, .int .i64 n, .string s]) (t := 56) ?hr ?_; (case hd => rfl); (case hg => rfl); (case hr => first | (go_simp; done) | (go_simp; rfl)); intro z4 hz4 w4 q4 b4; have HZ4 := Aside0.mk (And.intro hz4 (And.intro q4 b4)); clear hz4 q4 b4) | ((with_reducible refine gate_dst (N := 6) rfl ?_); refine box_event ?hg (N := 6) ?hd (cs := zb54) (t := 54) ?hr ?_; (case hd => rfl); (case hg => rfl); (case hr => first | (go_simp; done) | (go_simp; rfl)); intro z6 hz6 w6 q6 b6; have HZ6 := Aside0.mk (And.intro hz6 (And.intro q6 b6)); clear hz6 q6 b6))
  obtain ⟨hz3, q3, b3⟩ := HZ3.out
  obtain ⟨hz4, q4, b4⟩ := HZ4.out
  obtain ⟨hz6, q6, b6⟩ := HZ6.out
  have hs : CI w0 w w6 z3 z4 z6 c (.slice A1 c.th.length k1) v2 v3 v4 v5 v6 zb54 k f n s :=
    ⟨blk_below (blk_below q3 b4) b6, blk_below q4 b6, q6, rfl, fun e => by have := blk_lt q3; have := b4.size; omega, by omega, by have := b3.size; have := b4.size; omega, HB.out.size, ((HROW.out.below b3).below b4).below b6, HB.out.trans ((b3.trans ((b4.trans (b6.mono b4.size)).mono b3.size)).mono HB.out.size), KeepC.below (b3.trans ((b4.trans (b6.mono b4.size)).mono b3.size))⟩
  clear HZ3 HZ4 HZ6 hz3 q3 b3 hz4 q4 b4 hz6 q6 b6
  obtain ⟨c0, c1, c3, c4, c5, c6, c8, f8, n0, n1, n2, n3⟩ := hs.cells
  have HS := Aside0.mk hs
  clear hs
  go_upto_region 12 with (first | (go_at_call 7; (with_reducible refine (patchbayref3_In.calls t 0 1000000000 _ _ HIN.out).mono ?_); rintro e' wi ⟨rfl, hdi⟩; have hs := HS.out.on hdi.below; clear hdi HS; obtain ⟨c0, c1, c3, c4, c5, c6, c8, f8, n0, n1, n2, n3⟩ := hs.cells; have HS := Aside0.mk hs; clear hs) | (go_at_call 39; (with_reducible refine (patchbayref3_NoteFault.calls k f n s _ _ HNF.out).mono ?_); rintro e' wf ⟨rfl, hdf⟩; have hs := HS.out.on hdf; clear hdf HS; obtain ⟨c0, c1, c3, c4, c5, c6, c8, f8, n0, n1, n2, n3⟩ := hs.cells; have HS := Aside0.mk hs; clear hs))
  go_upto_region 13 with (first | ((with_reducible refine gate_ (.load 54 (.tmp 3)) rfl ?_); refine load54 rfl (.tmp 3) rfl z3 rfl _ HS.out.b3 rfl ?_) | (go_at_call 37; (with_reducible refine (copied_calls HS.out.rows HL.out (by omega)).mono ?_); rintro e' wc ⟨u1, u2, u3, u4, u5, u6, rfl, hr, hbc⟩; have hs := HS.out.on hbc; have HR := Aside0.mk (hr.lower HS.out.below.size); clear hr hbc HS; obtain ⟨c0, c1, c3, c4, c5, c6, c8, f8, n0, n1, n2, n3⟩ := hs.cells; have HS := Aside0.mk hs; clear hs) | ((with_reducible refine gate_store (t := 54) (p := 3) rfl ?_); refine store54 rfl rfl (.tmp 3) _ rfl z3 rfl _ _ rfl HS.out.b3 rfl rfl (cb_one HR.out) ?_; intro w9 hp; have hs := HS.out.put3 HR.out hp; clear hp HS HR; obtain ⟨c0, c1, c3, c4, c5, c6, c8, f8, n0, n1, n2, n3⟩ := hs.cells; have HS := Aside0.mk hs; clear hs))
  go_upto_region 14 with fail
  have hs := HS.out.now_ t
  generalize w9.setCell ⟨z3, 8, none⟩ (.int .i64 t) = wn at hs ⊢
  obtain ⟨d, hd⟩ : ∃ d : RC, { c with now := t } = d := ⟨_, rfl⟩
  rw [hd] at hs
  have HLD := Aside0.mk (show RLen d N from by rw [← hd]; exact ⟨HL.out.th, HL.out.fr, HL.out.wt, HL.out.bd, HL.out.ak, HL.out.rp⟩)
  have d8 : (f == d.id) = true := by rw [← hd]; exact d7
  have HID := Aside0.mk (show 0 ≤ d.id ∧ d.id ≤ 15 from by rw [← hd]; exact HIB.out)
  have hE := HE.out
  rw [hd] at hE
  replace HE := Aside0.mk hE
  clear HS hd hE c0 c1 c3 c4 c5 c6 c8 f8 n0 n1 n2 n3
  obtain ⟨c0, c1, c3, c4, c5, c6, c8, f8, n0, n1, n2, n3⟩ := hs.cells
  have HS := Aside0.mk hs
  clear hs
  go_wp2_with (first | ((with_reducible refine gate_ (.load 54 (.tmp 3)) rfl ?_); refine load54 rfl (.tmp 3) rfl z3 rfl _ HS.out.b3 rfl ?_) | ((with_reducible refine gate_store (t := 54) (p := 6) rfl ?_); refine store54 rfl rfl (.tmp 6) _ rfl z6 rfl _ _ rfl HS.out.b6 HS.out.sz rfl (cb_one HS.out.rows) ?_; intro w9 hp; have hs := HS.out.put6 hp rfl; clear hp HS; obtain ⟨c0, c1, c3, c4, c5, c6, c8, f8, n0, n1, n2, n3⟩ := hs.cells; have HS := Aside0.mk hs; clear hs))
  refine bodyPost_ret (results_ct rfl _ _ z6 54 _ (0, 0) _ rfl HS.out.b6 Try.underlying54 rfl size54) rfl ?_
  exact cin_done HS.out HE.out
set_option maxHeartbeats 4000000 in
set_option maxRecDepth 100000 in
theorem cin_a1 {w0 w : World} {v1 v2 v3 v4 v5 v6 : Value} {c : RC} {k f n t : Int} {s : ByteArray} {N : Nat} (h : Rws w0.heap.size w v1 v2 v3 v4 v5 v6 c) (hb : Below w0.heap.size w0 w) (hl : RLen c N) (hN : N ≤ 64) (hib : 0 ≤ c.id ∧ c.id ≤ 15) (ht : 0 ≤ t ∧ t ≤ 1000000000) (hbad : badF k f n s = false) (hnow : ¬ t < c.now) (hf : f = c.id) (hid : c.id ≠ 0) (hk3 : k ≠ 3) :
    Calls Try.prog 26 #[cv c v1 v2 v3 v4 v5 v6, .agg #[.int .i64 k, .int .i64 f, .int .i64 n, .string s], .int .i64 t] w (CInPost w0 w (rIn c k f n s t)) := by
  obtain ⟨A1, k1, rfl⟩ := Kd.R_slice h.r1
  have HROW := Aside0.mk h
  have HB := Aside0.mk hb
  have HL := Aside0.mk hl
  have hlt : c.th.length ≤ 64 := by rw [hl.th]; exact hN
  have HIB := Aside0.mk hib
  clear h hb hl hib
  have HE := Aside0.mk (show rIn c k f n s t = (if f = c.id then ({ c with now := t }, 0) else (rOk (rGrow { c with now := t } (if k = 3 then n.toNat else n.toNat + 1) t) k n.toNat s t, 0)) from by unfold rIn; rw [if_neg (by omega), if_neg (by rw [hbad]; decide), if_neg hnow, if_neg (fun q => hid q.1)])
  have HIN := Aside0.mk (show patchbayref3_In.f t 0 1000000000 = some true from by rw [in_v]; congr 1; exact decide_eq_true (by omega))
  have HNF := Aside0.mk (show patchbayref3_NoteFault.f k f n s = some false from by rw [nf_v, hbad])
  have hn := bad_no hbad
  have d3 : decide (t < c.now) = false := decide_eq_false hnow
  have d4 : (c.id == 0) = false := by simpa using hid
  have hE := HE.out
  rw [if_pos hf] at hE
  replace HE := Aside0.mk hE
  have HF := Aside0.mk hf
  clear hE
  have d6 : (k == 3) = false := by simpa using hk3
  have d7 : (f == c.id) = true := by simpa using HF.out
  clear ht hbad hnow hid hk3 hf HF
  go_enter Try.func26, Try.ntmps26
  go_upto_region 1 with (first | ((with_reducible refine gate_dst (N := 3) rfl ?_); refine box_event ?hg (N := 3) ?hd (cs := #[.int .i64 c.id, .slice A1 c.th.length k1, v2, v3, v4, v5, v6, .int .i64 c.he, .int .i64 c.now, .int .i64 c.rd]) (t := 54) ?hr ?_; (case hd => rfl); (case hg => rfl); (case hr => first | (go_simp; done) | (go_simp; rfl)); intro z3 hz3 w3 q3 b3; have HZ3 := Aside0.mk (And.intro hz3 (And.intro q3 b3)); clear hz3 q3 b3) | ((with_reducible refine gate_dst (N := 4) rfl ?_); refine box_event ?hg (N := 4) ?hd (cs := #[.int .i64 k, .int .i64 f, .int .i64 n, .string s]) (t := 56) ?hr ?_; (case hd => rfl); (case hg => rfl); (case hr => first | (go_simp; done) | (go_simp; rfl)); intro z4 hz4 w4 q4 b4; have HZ4 := Aside0.mk (And.intro hz4 (And.intro q4 b4)); clear hz4 q4 b4) | ((with_reducible refine gate_dst (N := 6) rfl ?_); refine box_event ?hg (N := 6) ?hd (cs := zb54) (t := 54) ?hr ?_; (case hd => rfl); (case hg => rfl); (case hr => first | (go_simp; done) | (go_simp; rfl)); intro z6 hz6 w6 q6 b6; have HZ6 := Aside0.mk (And.intro hz6 (And.intro q6 b6)); clear hz6 q6 b6))
  obtain ⟨hz3, q3, b3⟩ := HZ3.out
  obtain ⟨hz4, q4, b4⟩ := HZ4.out
  obtain ⟨hz6, q6, b6⟩ := HZ6.out
  have hs : CI w0 w w6 z3 z4 z6 c (.slice A1 c.th.length k1) v2 v3 v4 v5 v6 zb54 k f n s :=
    ⟨blk_below (blk_below q3 b4) b6, blk_below q4 b6, q6, rfl, fun e => by have := blk_lt q3; have := b4.size; omega, by omega, by have := b3.size; have := b4.size; omega, HB.out.size, ((HROW.out.below b3).below b4).below b6, HB.out.trans ((b3.trans ((b4.trans (b6.mono b4.size)).mono b3.size)).mono HB.out.size), KeepC.below (b3.trans ((b4.trans (b6.mono b4.size)).mono b3.size))⟩
  clear HZ3 HZ4 HZ6 hz3 q3 b3 hz4 q4 b4 hz6 q6 b6
  obtain ⟨c0, c1, c3, c4, c5, c6, c8, f8, n0, n1, n2, n3⟩ := hs.cells
  have HS := Aside0.mk hs
  clear hs
  go_upto_region 12 with (first | (go_at_call 7; (with_reducible refine (patchbayref3_In.calls t 0 1000000000 _ _ HIN.out).mono ?_); rintro e' wi ⟨rfl, hdi⟩; have hs := HS.out.on hdi.below; clear hdi HS; obtain ⟨c0, c1, c3, c4, c5, c6, c8, f8, n0, n1, n2, n3⟩ := hs.cells; have HS := Aside0.mk hs; clear hs) | (go_at_call 39; (with_reducible refine (patchbayref3_NoteFault.calls k f n s _ _ HNF.out).mono ?_); rintro e' wf ⟨rfl, hdf⟩; have hs := HS.out.on hdf; clear hdf HS; obtain ⟨c0, c1, c3, c4, c5, c6, c8, f8, n0, n1, n2, n3⟩ := hs.cells; have HS := Aside0.mk hs; clear hs))
  go_upto_region 13 with (first | ((with_reducible refine gate_ (.load 54 (.tmp 3)) rfl ?_); refine load54 rfl (.tmp 3) rfl z3 rfl _ HS.out.b3 rfl ?_) | (go_at_call 37; (with_reducible refine (copied_calls HS.out.rows HL.out (by omega)).mono ?_); rintro e' wc ⟨u1, u2, u3, u4, u5, u6, rfl, hr, hbc⟩; have hs := HS.out.on hbc; have HR := Aside0.mk (hr.lower HS.out.below.size); clear hr hbc HS; obtain ⟨c0, c1, c3, c4, c5, c6, c8, f8, n0, n1, n2, n3⟩ := hs.cells; have HS := Aside0.mk hs; clear hs) | ((with_reducible refine gate_store (t := 54) (p := 3) rfl ?_); refine store54 rfl rfl (.tmp 3) _ rfl z3 rfl _ _ rfl HS.out.b3 rfl rfl (cb_one HR.out) ?_; intro w9 hp; have hs := HS.out.put3 HR.out hp; clear hp HS HR; obtain ⟨c0, c1, c3, c4, c5, c6, c8, f8, n0, n1, n2, n3⟩ := hs.cells; have HS := Aside0.mk hs; clear hs))
  go_upto_region 14 with fail
  have hs := HS.out.now_ t
  generalize w9.setCell ⟨z3, 8, none⟩ (.int .i64 t) = wn at hs ⊢
  obtain ⟨d, hd⟩ : ∃ d : RC, { c with now := t } = d := ⟨_, rfl⟩
  rw [hd] at hs
  have HLD := Aside0.mk (show RLen d N from by rw [← hd]; exact ⟨HL.out.th, HL.out.fr, HL.out.wt, HL.out.bd, HL.out.ak, HL.out.rp⟩)
  have d8 : (f == d.id) = true := by rw [← hd]; exact d7
  have HID := Aside0.mk (show 0 ≤ d.id ∧ d.id ≤ 15 from by rw [← hd]; exact HIB.out)
  have hE := HE.out
  rw [hd] at hE
  replace HE := Aside0.mk hE
  clear HS hd hE c0 c1 c3 c4 c5 c6 c8 f8 n0 n1 n2 n3
  obtain ⟨c0, c1, c3, c4, c5, c6, c8, f8, n0, n1, n2, n3⟩ := hs.cells
  have HS := Aside0.mk hs
  clear hs
  go_wp2_with (first | ((with_reducible refine gate_ (.load 54 (.tmp 3)) rfl ?_); refine load54 rfl (.tmp 3) rfl z3 rfl _ HS.out.b3 rfl ?_) | ((with_reducible refine gate_store (t := 54) (p := 6) rfl ?_); refine store54 rfl rfl (.tmp 6) _ rfl z6 rfl _ _ rfl HS.out.b6 HS.out.sz rfl (cb_one HS.out.rows) ?_; intro w9 hp; have hs := HS.out.put6 hp rfl; clear hp HS; obtain ⟨c0, c1, c3, c4, c5, c6, c8, f8, n0, n1, n2, n3⟩ := hs.cells; have HS := Aside0.mk hs; clear hs))
  refine bodyPost_ret (results_ct rfl _ _ z6 54 _ (0, 0) _ rfl HS.out.b6 Try.underlying54 rfl size54) rfl ?_
  exact cin_done HS.out HE.out
set_option maxHeartbeats 4000000 in
set_option maxRecDepth 100000 in
theorem cin_30 {w0 w : World} {v1 v2 v3 v4 v5 v6 : Value} {c : RC} {k f n t : Int} {s : ByteArray} {N : Nat} (h : Rws w0.heap.size w v1 v2 v3 v4 v5 v6 c) (hb : Below w0.heap.size w0 w) (hl : RLen c N) (hN : N ≤ 64) (hib : 0 ≤ c.id ∧ c.id ≤ 15) (ht : 0 ≤ t ∧ t ≤ 1000000000) (hbad : badF k f n s = false) (hnow : ¬ t < c.now) (hf : f ≠ c.id) (hk : k = 3) (hid : c.id = 0) (hm : ¬ (c.th.length : Int) < (if k = 3 then n else n + 1)) :
    Calls Try.prog 26 #[cv c v1 v2 v3 v4 v5 v6, .agg #[.int .i64 k, .int .i64 f, .int .i64 n, .string s], .int .i64 t] w (CInPost w0 w (rIn c k f n s t)) := by
  obtain ⟨A1, k1, rfl⟩ := Kd.R_slice h.r1
  have HROW := Aside0.mk h
  have HB := Aside0.mk hb
  have HL := Aside0.mk hl
  have hlt : c.th.length ≤ 64 := by rw [hl.th]; exact hN
  have HIB := Aside0.mk hib
  clear h hb hl hib
  have HE := Aside0.mk (show rIn c k f n s t = (if f = c.id then ({ c with now := t }, 0) else (rOk (rGrow { c with now := t } (if k = 3 then n.toNat else n.toNat + 1) t) k n.toNat s t, 0)) from by unfold rIn; rw [if_neg (by omega), if_neg (by rw [hbad]; decide), if_neg hnow, if_neg (fun q => hm q.2)])
  have HIN := Aside0.mk (show patchbayref3_In.f t 0 1000000000 = some true from by rw [in_v]; congr 1; exact decide_eq_true (by omega))
  have HNF := Aside0.mk (show patchbayref3_NoteFault.f k f n s = some false from by rw [nf_v, hbad])
  have hn := bad_no hbad
  have d3 : decide (t < c.now) = false := decide_eq_false hnow
  have d4 : (c.id == 0) = true := by simpa using hid
  have hE := HE.out
  rw [if_neg hf] at hE
  have d7 : (f == c.id) = false := by simpa using hf
  subst hk
  rw [if_pos rfl] at hE
  rw [if_pos rfl] at hm
  have d5 : decide ((c.th.length : Int) < n) = false := decide_eq_false hm
  obtain ⟨i, rfl⟩ : ∃ q : Nat, n = q := ⟨n.toNat, by omega⟩
  rw [Int.toNat_natCast] at hE
  have d55 : decide (c.th.length < i) = false := decide_eq_false (by omega)
  replace HE := Aside0.mk hE
  clear hE hf
  clear hbad hnow hid hm
  go_enter Try.func26, Try.ntmps26
  go_upto_region 1 with (first | ((with_reducible refine gate_dst (N := 3) rfl ?_); refine box_event ?hg (N := 3) ?hd (cs := #[.int .i64 c.id, .slice A1 c.th.length k1, v2, v3, v4, v5, v6, .int .i64 c.he, .int .i64 c.now, .int .i64 c.rd]) (t := 54) ?hr ?_; (case hd => rfl); (case hg => rfl); (case hr => first | (go_simp; done) | (go_simp; rfl)); intro z3 hz3 w3 q3 b3; have HZ3 := Aside0.mk (And.intro hz3 (And.intro q3 b3)); clear hz3 q3 b3) | ((with_reducible refine gate_dst (N := 4) rfl ?_); refine box_event ?hg (N := 4) ?hd (cs := #[.int .i64 3, .int .i64 f, .int .i64 (i : Int), .string s]) (t := 56) ?hr ?_; (case hd => rfl); (case hg => rfl); (case hr => first | (go_simp; done) | (go_simp; rfl)); intro z4 hz4 w4 q4 b4; have HZ4 := Aside0.mk (And.intro hz4 (And.intro q4 b4)); clear hz4 q4 b4) | ((with_reducible refine gate_dst (N := 6) rfl ?_); refine box_event ?hg (N := 6) ?hd (cs := zb54) (t := 54) ?hr ?_; (case hd => rfl); (case hg => rfl); (case hr => first | (go_simp; done) | (go_simp; rfl)); intro z6 hz6 w6 q6 b6; have HZ6 := Aside0.mk (And.intro hz6 (And.intro q6 b6)); clear hz6 q6 b6))
  obtain ⟨hz3, q3, b3⟩ := HZ3.out
  obtain ⟨hz4, q4, b4⟩ := HZ4.out
  obtain ⟨hz6, q6, b6⟩ := HZ6.out
  have hs : CI w0 w w6 z3 z4 z6 c (.slice A1 c.th.length k1) v2 v3 v4 v5 v6 zb54 3 f (i : Int) s :=
    ⟨blk_below (blk_below q3 b4) b6, blk_below q4 b6, q6, rfl, fun e => by have := blk_lt q3; have := b4.size; omega, by omega, by have := b3.size; have := b4.size; omega, HB.out.size, ((HROW.out.below b3).below b4).below b6, HB.out.trans ((b3.trans ((b4.trans (b6.mono b4.size)).mono b3.size)).mono HB.out.size), KeepC.below (b3.trans ((b4.trans (b6.mono b4.size)).mono b3.size))⟩
  clear HZ3 HZ4 HZ6 hz3 q3 b3 hz4 q4 b4 hz6 q6 b6
  obtain ⟨c0, c1, c3, c4, c5, c6, c8, f8, n0, n1, n2, n3⟩ := hs.cells
  have HS := Aside0.mk hs
  clear hs
  go_upto_region 12 with (first | (go_at_call 7; (with_reducible refine (patchbayref3_In.calls t 0 1000000000 _ _ HIN.out).mono ?_); rintro e' wi ⟨rfl, hdi⟩; have hs := HS.out.on hdi.below; clear hdi HS; obtain ⟨c0, c1, c3, c4, c5, c6, c8, f8, n0, n1, n2, n3⟩ := hs.cells; have HS := Aside0.mk hs; clear hs) | (go_at_call 39; (with_reducible refine (patchbayref3_NoteFault.calls 3 f (i : Int) s _ _ HNF.out).mono ?_); rintro e' wf ⟨rfl, hdf⟩; have hs := HS.out.on hdf; clear hdf HS; obtain ⟨c0, c1, c3, c4, c5, c6, c8, f8, n0, n1, n2, n3⟩ := hs.cells; have HS := Aside0.mk hs; clear hs))
  go_upto_region 13 with (first | ((with_reducible refine gate_ (.load 54 (.tmp 3)) rfl ?_); refine load54 rfl (.tmp 3) rfl z3 rfl _ HS.out.b3 rfl ?_) | (go_at_call 37; (with_reducible refine (copied_calls HS.out.rows HL.out (by omega)).mono ?_); rintro e' wc ⟨u1, u2, u3, u4, u5, u6, rfl, hr, hbc⟩; have hs := HS.out.on hbc; have HR := Aside0.mk (hr.lower HS.out.below.size); clear hr hbc HS; obtain ⟨c0, c1, c3, c4, c5, c6, c8, f8, n0, n1, n2, n3⟩ := hs.cells; have HS := Aside0.mk hs; clear hs) | ((with_reducible refine gate_store (t := 54) (p := 3) rfl ?_); refine store54 rfl rfl (.tmp 3) _ rfl z3 rfl _ _ rfl HS.out.b3 rfl rfl (cb_one HR.out) ?_; intro w9 hp; have hs := HS.out.put3 HR.out hp; clear hp HS HR; obtain ⟨c0, c1, c3, c4, c5, c6, c8, f8, n0, n1, n2, n3⟩ := hs.cells; have HS := Aside0.mk hs; clear hs))
  go_upto_region 14 with fail
  have hs := HS.out.now_ t
  generalize w9.setCell ⟨z3, 8, none⟩ (.int .i64 t) = wn at hs ⊢
  obtain ⟨d, hd⟩ : ∃ d : RC, { c with now := t } = d := ⟨_, rfl⟩
  rw [hd] at hs
  have HLD := Aside0.mk (show RLen d N from by rw [← hd]; exact ⟨HL.out.th, HL.out.fr, HL.out.wt, HL.out.bd, HL.out.ak, HL.out.rp⟩)
  have d8 : (f == d.id) = false := by rw [← hd]; exact d7
  have HID := Aside0.mk (show 0 ≤ d.id ∧ d.id ≤ 15 from by rw [← hd]; exact HIB.out)
  have hE := HE.out
  rw [hd] at hE
  replace HE := Aside0.mk hE
  clear HS hd hE c0 c1 c3 c4 c5 c6 c8 f8 n0 n1 n2 n3
  obtain ⟨c0, c1, c3, c4, c5, c6, c8, f8, n0, n1, n2, n3⟩ := hs.cells
  have HS := Aside0.mk hs
  clear hs
  have HMI := Aside0.mk (show (i : Int) = ((i : Nat) : Int) from by omega)
  obtain ⟨g, hgd⟩ : ∃ g, rGrow d i t = g := ⟨_, rfl⟩
  have hgl := rgrow_len d N i t HLD.out
  have hE := HE.out
  rw [hgd] at hE hgl
  replace HE := Aside0.mk hE
  have HGD := Aside0.mk hgd
  have HGL := Aside0.mk hgl
  have HGI := Aside0.mk (show 0 ≤ g.id ∧ g.id ≤ 15 from by rw [← hgd]; exact HID.out)
  clear hE hgd hgl
  go_upto_region 17 with (first | ((with_reducible refine gate_ (.load 54 (.tmp 3)) rfl ?_); refine load54 rfl (.tmp 3) rfl z3 rfl _ HS.out.b3 rfl ?_) | (go_at_call 38; (with_reducible refine (grow_calls (n := N) (m := i) HMI.out HS.out.rows HS.out.below HLD.out (by omega) (by omega)).mono ?_); rintro e' wg ⟨y1, y2, y3, y4, y5, y6, he, hr, hbg, hkg⟩; rw [HGD.out] at he hr; subst he; have HR := Aside0.mk hr; have HBG := Aside0.mk hbg; have HKG := Aside0.mk hkg; have HC := Aside0.mk (HS.out.call hkg hbg).1; clear hr hbg hkg) | ((with_reducible refine gate_store (t := 54) (p := 3) rfl ?_); refine store54 rfl rfl (.tmp 3) _ rfl z3 rfl _ _ rfl HC.out rfl rfl (cb_one HR.out) ?_; intro w9 hp; have hs := HS.out.put3g HKG.out HBG.out HR.out hp; clear hp HS HR c0 c1 c3 c4 c5 c6 c8 f8 n0 n1 n2 n3; obtain ⟨c0, c1, c3, c4, c5, c6, c8, f8, n0, n1, n2, n3⟩ := hs.cells; have HS := Aside0.mk hs; clear hs))
  have hE := HE.out
  have e1 : rOk g 3 i s t = g := by unfold rOk; rw [if_neg (by decide), if_neg (by decide)]
  rw [e1] at hE
  replace HE := Aside0.mk hE
  clear hE e1
  go_wp2_with (first | ((with_reducible refine gate_ (.load 54 (.tmp 3)) rfl ?_); refine load54 rfl (.tmp 3) rfl z3 rfl _ HS.out.b3 rfl ?_) | ((with_reducible refine gate_store (t := 54) (p := 6) rfl ?_); refine store54 rfl rfl (.tmp 6) _ rfl z6 rfl _ _ rfl HS.out.b6 HS.out.sz rfl (cb_one HS.out.rows) ?_; intro w9 hp; have hs := HS.out.put6 hp rfl; clear hp HS; obtain ⟨c0, c1, c3, c4, c5, c6, c8, f8, n0, n1, n2, n3⟩ := hs.cells; have HS := Aside0.mk hs; clear hs))
  refine bodyPost_ret (results_ct rfl _ _ z6 54 _ (0, 0) _ rfl HS.out.b6 Try.underlying54 rfl size54) rfl ?_
  exact cin_done HS.out HE.out
set_option maxHeartbeats 4000000 in
set_option maxRecDepth 100000 in
theorem cin_31 {w0 w : World} {v1 v2 v3 v4 v5 v6 : Value} {c : RC} {k f n t : Int} {s : ByteArray} {N : Nat} (h : Rws w0.heap.size w v1 v2 v3 v4 v5 v6 c) (hb : Below w0.heap.size w0 w) (hl : RLen c N) (hN : N ≤ 64) (hib : 0 ≤ c.id ∧ c.id ≤ 15) (ht : 0 ≤ t ∧ t ≤ 1000000000) (hbad : badF k f n s = false) (hnow : ¬ t < c.now) (hf : f ≠ c.id) (hk : k = 3) (hid : c.id ≠ 0) :
    Calls Try.prog 26 #[cv c v1 v2 v3 v4 v5 v6, .agg #[.int .i64 k, .int .i64 f, .int .i64 n, .string s], .int .i64 t] w (CInPost w0 w (rIn c k f n s t)) := by
  obtain ⟨A1, k1, rfl⟩ := Kd.R_slice h.r1
  have HROW := Aside0.mk h
  have HB := Aside0.mk hb
  have HL := Aside0.mk hl
  have hlt : c.th.length ≤ 64 := by rw [hl.th]; exact hN
  have HIB := Aside0.mk hib
  clear h hb hl hib
  have HE := Aside0.mk (show rIn c k f n s t = (if f = c.id then ({ c with now := t }, 0) else (rOk (rGrow { c with now := t } (if k = 3 then n.toNat else n.toNat + 1) t) k n.toNat s t, 0)) from by unfold rIn; rw [if_neg (by omega), if_neg (by rw [hbad]; decide), if_neg hnow, if_neg (fun q => hid q.1)])
  have HIN := Aside0.mk (show patchbayref3_In.f t 0 1000000000 = some true from by rw [in_v]; congr 1; exact decide_eq_true (by omega))
  have HNF := Aside0.mk (show patchbayref3_NoteFault.f k f n s = some false from by rw [nf_v, hbad])
  have hn := bad_no hbad
  have d3 : decide (t < c.now) = false := decide_eq_false hnow
  have d4 : (c.id == 0) = false := by simpa using hid
  have hE := HE.out
  rw [if_neg hf] at hE
  have d7 : (f == c.id) = false := by simpa using hf
  subst hk
  rw [if_pos rfl] at hE
  obtain ⟨i, rfl⟩ : ∃ q : Nat, n = q := ⟨n.toNat, by omega⟩
  rw [Int.toNat_natCast] at hE
  replace HE := Aside0.mk hE
  clear hE hf
  clear hbad hnow hid
  go_enter Try.func26, Try.ntmps26
  go_upto_region 1 with (first | ((with_reducible refine gate_dst (N := 3) rfl ?_); refine box_event ?hg (N := 3) ?hd (cs := #[.int .i64 c.id, .slice A1 c.th.length k1, v2, v3, v4, v5, v6, .int .i64 c.he, .int .i64 c.now, .int .i64 c.rd]) (t := 54) ?hr ?_; (case hd => rfl); (case hg => rfl); (case hr => first | (go_simp; done) | (go_simp; rfl)); intro z3 hz3 w3 q3 b3; have HZ3 := Aside0.mk (And.intro hz3 (And.intro q3 b3)); clear hz3 q3 b3) | ((with_reducible refine gate_dst (N := 4) rfl ?_); refine box_event ?hg (N := 4) ?hd (cs := #[.int .i64 3, .int .i64 f, .int .i64 (i : Int), .string s]) (t := 56) ?hr ?_; (case hd => rfl); (case hg => rfl); (case hr => first | (go_simp; done) | (go_simp; rfl)); intro z4 hz4 w4 q4 b4; have HZ4 := Aside0.mk (And.intro hz4 (And.intro q4 b4)); clear hz4 q4 b4) | ((with_reducible refine gate_dst (N := 6) rfl ?_); refine box_event ?hg (N := 6) ?hd (cs := zb54) (t := 54) ?hr ?_; (case hd => rfl); (case hg => rfl); (case hr => first | (go_simp; done) | (go_simp; rfl)); intro z6 hz6 w6 q6 b6; have HZ6 := Aside0.mk (And.intro hz6 (And.intro q6 b6)); clear hz6 q6 b6))
  obtain ⟨hz3, q3, b3⟩ := HZ3.out
  obtain ⟨hz4, q4, b4⟩ := HZ4.out
  obtain ⟨hz6, q6, b6⟩ := HZ6.out
  have hs : CI w0 w w6 z3 z4 z6 c (.slice A1 c.th.length k1) v2 v3 v4 v5 v6 zb54 3 f (i : Int) s :=
    ⟨blk_below (blk_below q3 b4) b6, blk_below q4 b6, q6, rfl, fun e => by have := blk_lt q3; have := b4.size; omega, by omega, by have := b3.size; have := b4.size; omega, HB.out.size, ((HROW.out.below b3).below b4).below b6, HB.out.trans ((b3.trans ((b4.trans (b6.mono b4.size)).mono b3.size)).mono HB.out.size), KeepC.below (b3.trans ((b4.trans (b6.mono b4.size)).mono b3.size))⟩
  clear HZ3 HZ4 HZ6 hz3 q3 b3 hz4 q4 b4 hz6 q6 b6
  obtain ⟨c0, c1, c3, c4, c5, c6, c8, f8, n0, n1, n2, n3⟩ := hs.cells
  have HS := Aside0.mk hs
  clear hs
  go_upto_region 12 with (first | (go_at_call 7; (with_reducible refine (patchbayref3_In.calls t 0 1000000000 _ _ HIN.out).mono ?_); rintro e' wi ⟨rfl, hdi⟩; have hs := HS.out.on hdi.below; clear hdi HS; obtain ⟨c0, c1, c3, c4, c5, c6, c8, f8, n0, n1, n2, n3⟩ := hs.cells; have HS := Aside0.mk hs; clear hs) | (go_at_call 39; (with_reducible refine (patchbayref3_NoteFault.calls 3 f (i : Int) s _ _ HNF.out).mono ?_); rintro e' wf ⟨rfl, hdf⟩; have hs := HS.out.on hdf; clear hdf HS; obtain ⟨c0, c1, c3, c4, c5, c6, c8, f8, n0, n1, n2, n3⟩ := hs.cells; have HS := Aside0.mk hs; clear hs))
  go_upto_region 13 with (first | ((with_reducible refine gate_ (.load 54 (.tmp 3)) rfl ?_); refine load54 rfl (.tmp 3) rfl z3 rfl _ HS.out.b3 rfl ?_) | (go_at_call 37; (with_reducible refine (copied_calls HS.out.rows HL.out (by omega)).mono ?_); rintro e' wc ⟨u1, u2, u3, u4, u5, u6, rfl, hr, hbc⟩; have hs := HS.out.on hbc; have HR := Aside0.mk (hr.lower HS.out.below.size); clear hr hbc HS; obtain ⟨c0, c1, c3, c4, c5, c6, c8, f8, n0, n1, n2, n3⟩ := hs.cells; have HS := Aside0.mk hs; clear hs) | ((with_reducible refine gate_store (t := 54) (p := 3) rfl ?_); refine store54 rfl rfl (.tmp 3) _ rfl z3 rfl _ _ rfl HS.out.b3 rfl rfl (cb_one HR.out) ?_; intro w9 hp; have hs := HS.out.put3 HR.out hp; clear hp HS HR; obtain ⟨c0, c1, c3, c4, c5, c6, c8, f8, n0, n1, n2, n3⟩ := hs.cells; have HS := Aside0.mk hs; clear hs))
  go_upto_region 14 with fail
  have hs := HS.out.now_ t
  generalize w9.setCell ⟨z3, 8, none⟩ (.int .i64 t) = wn at hs ⊢
  obtain ⟨d, hd⟩ : ∃ d : RC, { c with now := t } = d := ⟨_, rfl⟩
  rw [hd] at hs
  have HLD := Aside0.mk (show RLen d N from by rw [← hd]; exact ⟨HL.out.th, HL.out.fr, HL.out.wt, HL.out.bd, HL.out.ak, HL.out.rp⟩)
  have d8 : (f == d.id) = false := by rw [← hd]; exact d7
  have HID := Aside0.mk (show 0 ≤ d.id ∧ d.id ≤ 15 from by rw [← hd]; exact HIB.out)
  have hE := HE.out
  rw [hd] at hE
  replace HE := Aside0.mk hE
  clear HS hd hE c0 c1 c3 c4 c5 c6 c8 f8 n0 n1 n2 n3
  obtain ⟨c0, c1, c3, c4, c5, c6, c8, f8, n0, n1, n2, n3⟩ := hs.cells
  have HS := Aside0.mk hs
  clear hs
  have HMI := Aside0.mk (show (i : Int) = ((i : Nat) : Int) from by omega)
  obtain ⟨g, hgd⟩ : ∃ g, rGrow d i t = g := ⟨_, rfl⟩
  have hgl := rgrow_len d N i t HLD.out
  have hE := HE.out
  rw [hgd] at hE hgl
  replace HE := Aside0.mk hE
  have HGD := Aside0.mk hgd
  have HGL := Aside0.mk hgl
  have HGI := Aside0.mk (show 0 ≤ g.id ∧ g.id ≤ 15 from by rw [← hgd]; exact HID.out)
  clear hE hgd hgl
  go_upto_region 17 with (first | ((with_reducible refine gate_ (.load 54 (.tmp 3)) rfl ?_); refine load54 rfl (.tmp 3) rfl z3 rfl _ HS.out.b3 rfl ?_) | (go_at_call 38; (with_reducible refine (grow_calls (n := N) (m := i) HMI.out HS.out.rows HS.out.below HLD.out (by omega) (by omega)).mono ?_); rintro e' wg ⟨y1, y2, y3, y4, y5, y6, he, hr, hbg, hkg⟩; rw [HGD.out] at he hr; subst he; have HR := Aside0.mk hr; have HBG := Aside0.mk hbg; have HKG := Aside0.mk hkg; have HC := Aside0.mk (HS.out.call hkg hbg).1; clear hr hbg hkg) | ((with_reducible refine gate_store (t := 54) (p := 3) rfl ?_); refine store54 rfl rfl (.tmp 3) _ rfl z3 rfl _ _ rfl HC.out rfl rfl (cb_one HR.out) ?_; intro w9 hp; have hs := HS.out.put3g HKG.out HBG.out HR.out hp; clear hp HS HR c0 c1 c3 c4 c5 c6 c8 f8 n0 n1 n2 n3; obtain ⟨c0, c1, c3, c4, c5, c6, c8, f8, n0, n1, n2, n3⟩ := hs.cells; have HS := Aside0.mk hs; clear hs))
  have hE := HE.out
  have e1 : rOk g 3 i s t = g := by unfold rOk; rw [if_neg (by decide), if_neg (by decide)]
  rw [e1] at hE
  replace HE := Aside0.mk hE
  clear hE e1
  go_wp2_with (first | ((with_reducible refine gate_ (.load 54 (.tmp 3)) rfl ?_); refine load54 rfl (.tmp 3) rfl z3 rfl _ HS.out.b3 rfl ?_) | ((with_reducible refine gate_store (t := 54) (p := 6) rfl ?_); refine store54 rfl rfl (.tmp 6) _ rfl z6 rfl _ _ rfl HS.out.b6 HS.out.sz rfl (cb_one HS.out.rows) ?_; intro w9 hp; have hs := HS.out.put6 hp rfl; clear hp HS; obtain ⟨c0, c1, c3, c4, c5, c6, c8, f8, n0, n1, n2, n3⟩ := hs.cells; have HS := Aside0.mk hs; clear hs))
  refine bodyPost_ret (results_ct rfl _ _ z6 54 _ (0, 0) _ rfl HS.out.b6 Try.underlying54 rfl size54) rfl ?_
  exact cin_done HS.out HE.out
set_option maxHeartbeats 4000000 in
set_option maxRecDepth 100000 in
theorem cin_10 {w0 w : World} {v1 v2 v3 v4 v5 v6 : Value} {c : RC} {k f n t : Int} {s : ByteArray} {N : Nat} (h : Rws w0.heap.size w v1 v2 v3 v4 v5 v6 c) (hb : Below w0.heap.size w0 w) (hl : RLen c N) (hN : N ≤ 64) (hib : 0 ≤ c.id ∧ c.id ≤ 15) (ht : 0 ≤ t ∧ t ≤ 1000000000) (hbad : badF k f n s = false) (hnow : ¬ t < c.now) (hf : f ≠ c.id) (hk : k = 1) (hid : c.id = 0) (hm : ¬ (c.th.length : Int) < (if k = 3 then n else n + 1)) :
    Calls Try.prog 26 #[cv c v1 v2 v3 v4 v5 v6, .agg #[.int .i64 k, .int .i64 f, .int .i64 n, .string s], .int .i64 t] w (CInPost w0 w (rIn c k f n s t)) := by
  obtain ⟨A1, k1, rfl⟩ := Kd.R_slice h.r1
  have HROW := Aside0.mk h
  have HB := Aside0.mk hb
  have HL := Aside0.mk hl
  have hlt : c.th.length ≤ 64 := by rw [hl.th]; exact hN
  have HIB := Aside0.mk hib
  clear h hb hl hib
  have HE := Aside0.mk (show rIn c k f n s t = (if f = c.id then ({ c with now := t }, 0) else (rOk (rGrow { c with now := t } (if k = 3 then n.toNat else n.toNat + 1) t) k n.toNat s t, 0)) from by unfold rIn; rw [if_neg (by omega), if_neg (by rw [hbad]; decide), if_neg hnow, if_neg (fun q => hm q.2)])
  have HIN := Aside0.mk (show patchbayref3_In.f t 0 1000000000 = some true from by rw [in_v]; congr 1; exact decide_eq_true (by omega))
  have HNF := Aside0.mk (show patchbayref3_NoteFault.f k f n s = some false from by rw [nf_v, hbad])
  have hn := bad_no hbad
  have d3 : decide (t < c.now) = false := decide_eq_false hnow
  have d4 : (c.id == 0) = true := by simpa using hid
  have hE := HE.out
  rw [if_neg hf] at hE
  have d7 : (f == c.id) = false := by simpa using hf
  subst hk
  rw [if_neg (by decide)] at hE
  rw [if_neg (by decide)] at hm
  have d5 : decide ((c.th.length : Int) < n + 1) = false := decide_eq_false hm
  obtain ⟨i, rfl⟩ : ∃ q : Nat, n = q := ⟨n.toNat, by omega⟩
  rw [Int.toNat_natCast] at hE
  replace HE := Aside0.mk hE
  clear hE hf
  clear hbad hnow hid hm
  go_enter Try.func26, Try.ntmps26
  go_upto_region 1 with (first | ((with_reducible refine gate_dst (N := 3) rfl ?_); refine box_event ?hg (N := 3) ?hd (cs := #[.int .i64 c.id, .slice A1 c.th.length k1, v2, v3, v4, v5, v6, .int .i64 c.he, .int .i64 c.now, .int .i64 c.rd]) (t := 54) ?hr ?_; (case hd => rfl); (case hg => rfl); (case hr => first | (go_simp; done) | (go_simp; rfl)); intro z3 hz3 w3 q3 b3; have HZ3 := Aside0.mk (And.intro hz3 (And.intro q3 b3)); clear hz3 q3 b3) | ((with_reducible refine gate_dst (N := 4) rfl ?_); refine box_event ?hg (N := 4) ?hd (cs := #[.int .i64 1, .int .i64 f, .int .i64 (i : Int), .string s]) (t := 56) ?hr ?_; (case hd => rfl); (case hg => rfl); (case hr => first | (go_simp; done) | (go_simp; rfl)); intro z4 hz4 w4 q4 b4; have HZ4 := Aside0.mk (And.intro hz4 (And.intro q4 b4)); clear hz4 q4 b4) | ((with_reducible refine gate_dst (N := 6) rfl ?_); refine box_event ?hg (N := 6) ?hd (cs := zb54) (t := 54) ?hr ?_; (case hd => rfl); (case hg => rfl); (case hr => first | (go_simp; done) | (go_simp; rfl)); intro z6 hz6 w6 q6 b6; have HZ6 := Aside0.mk (And.intro hz6 (And.intro q6 b6)); clear hz6 q6 b6))
  obtain ⟨hz3, q3, b3⟩ := HZ3.out
  obtain ⟨hz4, q4, b4⟩ := HZ4.out
  obtain ⟨hz6, q6, b6⟩ := HZ6.out
  have hs : CI w0 w w6 z3 z4 z6 c (.slice A1 c.th.length k1) v2 v3 v4 v5 v6 zb54 1 f (i : Int) s :=
    ⟨blk_below (blk_below q3 b4) b6, blk_below q4 b6, q6, rfl, fun e => by have := blk_lt q3; have := b4.size; omega, by omega, by have := b3.size; have := b4.size; omega, HB.out.size, ((HROW.out.below b3).below b4).below b6, HB.out.trans ((b3.trans ((b4.trans (b6.mono b4.size)).mono b3.size)).mono HB.out.size), KeepC.below (b3.trans ((b4.trans (b6.mono b4.size)).mono b3.size))⟩
  clear HZ3 HZ4 HZ6 hz3 q3 b3 hz4 q4 b4 hz6 q6 b6
  obtain ⟨c0, c1, c3, c4, c5, c6, c8, f8, n0, n1, n2, n3⟩ := hs.cells
  have HS := Aside0.mk hs
  clear hs
  go_upto_region 12 with (first | (go_at_call 7; (with_reducible refine (patchbayref3_In.calls t 0 1000000000 _ _ HIN.out).mono ?_); rintro e' wi ⟨rfl, hdi⟩; have hs := HS.out.on hdi.below; clear hdi HS; obtain ⟨c0, c1, c3, c4, c5, c6, c8, f8, n0, n1, n2, n3⟩ := hs.cells; have HS := Aside0.mk hs; clear hs) | (go_at_call 39; (with_reducible refine (patchbayref3_NoteFault.calls 1 f (i : Int) s _ _ HNF.out).mono ?_); rintro e' wf ⟨rfl, hdf⟩; have hs := HS.out.on hdf; clear hdf HS; obtain ⟨c0, c1, c3, c4, c5, c6, c8, f8, n0, n1, n2, n3⟩ := hs.cells; have HS := Aside0.mk hs; clear hs))
  go_upto_region 13 with (first | ((with_reducible refine gate_ (.load 54 (.tmp 3)) rfl ?_); refine load54 rfl (.tmp 3) rfl z3 rfl _ HS.out.b3 rfl ?_) | (go_at_call 37; (with_reducible refine (copied_calls HS.out.rows HL.out (by omega)).mono ?_); rintro e' wc ⟨u1, u2, u3, u4, u5, u6, rfl, hr, hbc⟩; have hs := HS.out.on hbc; have HR := Aside0.mk (hr.lower HS.out.below.size); clear hr hbc HS; obtain ⟨c0, c1, c3, c4, c5, c6, c8, f8, n0, n1, n2, n3⟩ := hs.cells; have HS := Aside0.mk hs; clear hs) | ((with_reducible refine gate_store (t := 54) (p := 3) rfl ?_); refine store54 rfl rfl (.tmp 3) _ rfl z3 rfl _ _ rfl HS.out.b3 rfl rfl (cb_one HR.out) ?_; intro w9 hp; have hs := HS.out.put3 HR.out hp; clear hp HS HR; obtain ⟨c0, c1, c3, c4, c5, c6, c8, f8, n0, n1, n2, n3⟩ := hs.cells; have HS := Aside0.mk hs; clear hs))
  go_upto_region 14 with fail
  have hs := HS.out.now_ t
  generalize w9.setCell ⟨z3, 8, none⟩ (.int .i64 t) = wn at hs ⊢
  obtain ⟨d, hd⟩ : ∃ d : RC, { c with now := t } = d := ⟨_, rfl⟩
  rw [hd] at hs
  have HLD := Aside0.mk (show RLen d N from by rw [← hd]; exact ⟨HL.out.th, HL.out.fr, HL.out.wt, HL.out.bd, HL.out.ak, HL.out.rp⟩)
  have d8 : (f == d.id) = false := by rw [← hd]; exact d7
  have HID := Aside0.mk (show 0 ≤ d.id ∧ d.id ≤ 15 from by rw [← hd]; exact HIB.out)
  have hE := HE.out
  rw [hd] at hE
  replace HE := Aside0.mk hE
  clear HS hd hE c0 c1 c3 c4 c5 c6 c8 f8 n0 n1 n2 n3
  obtain ⟨c0, c1, c3, c4, c5, c6, c8, f8, n0, n1, n2, n3⟩ := hs.cells
  have HS := Aside0.mk hs
  clear hs
  have HMI := Aside0.mk (show (i : Int) + 1 = ((i + 1 : Nat) : Int) from by omega)
  obtain ⟨g, hgd⟩ : ∃ g, rGrow d (i + 1) t = g := ⟨_, rfl⟩
  have hgl := rgrow_len d N (i + 1) t HLD.out
  have hE := HE.out
  rw [hgd] at hE hgl
  replace HE := Aside0.mk hE
  have HGD := Aside0.mk hgd
  have HGL := Aside0.mk hgl
  have HGI := Aside0.mk (show 0 ≤ g.id ∧ g.id ≤ 15 from by rw [← hgd]; exact HID.out)
  clear hE hgd hgl
  go_upto_region 17 with (first | ((with_reducible refine gate_ (.load 54 (.tmp 3)) rfl ?_); refine load54 rfl (.tmp 3) rfl z3 rfl _ HS.out.b3 rfl ?_) | (go_at_call 38; (with_reducible refine (grow_calls (n := N) (m := (i + 1)) HMI.out HS.out.rows HS.out.below HLD.out (by omega) (by omega)).mono ?_); rintro e' wg ⟨y1, y2, y3, y4, y5, y6, he, hr, hbg, hkg⟩; rw [HGD.out] at he hr; subst he; have HR := Aside0.mk hr; have HBG := Aside0.mk hbg; have HKG := Aside0.mk hkg; have HC := Aside0.mk (HS.out.call hkg hbg).1; clear hr hbg hkg) | ((with_reducible refine gate_store (t := 54) (p := 3) rfl ?_); refine store54 rfl rfl (.tmp 3) _ rfl z3 rfl _ _ rfl HC.out rfl rfl (cb_one HR.out) ?_; intro w9 hp; have hs := HS.out.put3g HKG.out HBG.out HR.out hp; clear hp HS HR c0 c1 c3 c4 c5 c6 c8 f8 n0 n1 n2 n3; obtain ⟨c0, c1, c3, c4, c5, c6, c8, f8, n0, n1, n2, n3⟩ := hs.cells; have HS := Aside0.mk hs; clear hs))
  have hi : i < g.th.length := by have := HGL.out.th; omega
  obtain ⟨b1, hb1⟩ : ∃ b, rdOf false g.th (i : Int) = b := ⟨_, rfl⟩
  obtain ⟨g1, e1, rfl, i1, f1⟩ := HS.out.rows.at1 hi
  rw [hb1] at i1
  have HB1 := Aside0.mk hb1
  clear hb1
  cases b1 with
  | true =>
    have hi3 : i < g.wt.length := by have := HGL.out.wt; omega
    obtain ⟨g3, e3, rfl, i3, f3⟩ := HS.out.rows.at3 (i := i) hi3
    go_upto_region 22 with fail
    have hs := HS.out.put_wt (i := i) false
    obtain ⟨ga, hgn⟩ : ∃ q : RC, { g with wt := g.wt.set i false } = q := ⟨_, rfl⟩
    rw [hgn] at hs
    have HN1 := Aside0.mk hgn
    have HLga := Aside0.mk (show RLen ga _ from by rw [← hgn]; exact rlen_wt HGL.out i false)
    generalize w9.setCell ⟨g3, i, none⟩ (.bool false) = wa at hs ⊢
    clear HS hgn i3 f3 c0 c1 c3 c4 c5 c6 c8 f8 n0 n1 n2 n3
    obtain ⟨c0, c1, c3, c4, c5, c6, c8, f8, n0, n1, n2, n3⟩ := hs.cells
    have HS := Aside0.mk hs
    clear hs
    have hE := HE.out
    have e1 : rOk g 1 i s t = ga := by unfold rOk; rw [if_pos rfl, if_pos HB1.out]; exact HN1.out
    rw [e1] at hE
    replace HE := Aside0.mk hE
    clear hE e1
    go_wp2_with (first | ((with_reducible refine gate_ (.load 54 (.tmp 3)) rfl ?_); refine load54 rfl (.tmp 3) rfl z3 rfl _ HS.out.b3 rfl ?_) | ((with_reducible refine gate_store (t := 54) (p := 6) rfl ?_); refine store54 rfl rfl (.tmp 6) _ rfl z6 rfl _ _ rfl HS.out.b6 HS.out.sz rfl (cb_one HS.out.rows) ?_; intro w9 hp; have hs := HS.out.put6 hp rfl; clear hp HS; obtain ⟨c0, c1, c3, c4, c5, c6, c8, f8, n0, n1, n2, n3⟩ := hs.cells; have HS := Aside0.mk hs; clear hs))
    refine bodyPost_ret (results_ct rfl _ _ z6 54 _ (0, 0) _ rfl HS.out.b6 Try.underlying54 rfl size54) rfl ?_
    exact cin_done HS.out HE.out
  | false =>
    have hi1 : i < g.th.length := by have := HGL.out.th; omega
    go_upto_region 20 with fail
    have hs := HS.out.put_th (i := i) true
    obtain ⟨ga, hgn⟩ : ∃ q : RC, { g with th := g.th.set i true } = q := ⟨_, rfl⟩
    rw [hgn] at hs
    have HN1 := Aside0.mk hgn
    have HLga := Aside0.mk (show RLen ga _ from by rw [← hgn]; exact rlen_th HGL.out i true)
    generalize w9.setCell ⟨g1, i, none⟩ (.bool true) = wa at hs ⊢
    clear HS hgn i1 f1 c0 c1 c3 c4 c5 c6 c8 f8 n0 n1 n2 n3
    obtain ⟨c0, c1, c3, c4, c5, c6, c8, f8, n0, n1, n2, n3⟩ := hs.cells
    have HS := Aside0.mk hs
    clear hs
    have hi4 : i < ga.bd.length := by have := HLga.out.bd; omega
    obtain ⟨g4, e4, rfl, i4, f4⟩ := HS.out.rows.at4 (i := i) hi4
    go_upto_region 21 with fail
    have hs := HS.out.put_bd (i := i) s
    obtain ⟨gb2, hgn⟩ : ∃ q : RC, { ga with bd := ga.bd.set i s } = q := ⟨_, rfl⟩
    rw [hgn] at hs
    have HN2 := Aside0.mk hgn
    have HLgb2 := Aside0.mk (show RLen gb2 _ from by rw [← hgn]; exact rlen_bd HLga.out i s)
    generalize wa.setCell ⟨g4, i, none⟩ (.string s) = wb2 at hs ⊢
    clear HS hgn i4 f4 c0 c1 c3 c4 c5 c6 c8 f8 n0 n1 n2 n3
    obtain ⟨c0, c1, c3, c4, c5, c6, c8, f8, n0, n1, n2, n3⟩ := hs.cells
    have HS := Aside0.mk hs
    clear hs
    have hi3 : i < gb2.wt.length := by have := HLgb2.out.wt; omega
    obtain ⟨g3, e3, rfl, i3, f3⟩ := HS.out.rows.at3 (i := i) hi3
    go_upto_region 22 with fail
    have hs := HS.out.put_wt (i := i) false
    obtain ⟨gd, hgn⟩ : ∃ q : RC, { gb2 with wt := gb2.wt.set i false } = q := ⟨_, rfl⟩
    rw [hgn] at hs
    have HN3 := Aside0.mk hgn
    have HLgd := Aside0.mk (show RLen gd _ from by rw [← hgn]; exact rlen_wt HLgb2.out i false)
    generalize wb2.setCell ⟨g3, i, none⟩ (.bool false) = wd at hs ⊢
    clear HS hgn i3 f3 c0 c1 c3 c4 c5 c6 c8 f8 n0 n1 n2 n3
    obtain ⟨c0, c1, c3, c4, c5, c6, c8, f8, n0, n1, n2, n3⟩ := hs.cells
    have HS := Aside0.mk hs
    clear hs
    have hE := HE.out
    have e1 : rOk g 1 i s t = gd := by unfold rOk; rw [if_pos rfl, if_neg (by rw [HB1.out]; decide), ← HN3.out, ← HN2.out, ← HN1.out]
    rw [e1] at hE
    replace HE := Aside0.mk hE
    clear hE e1
    go_wp2_with (first | ((with_reducible refine gate_ (.load 54 (.tmp 3)) rfl ?_); refine load54 rfl (.tmp 3) rfl z3 rfl _ HS.out.b3 rfl ?_) | ((with_reducible refine gate_store (t := 54) (p := 6) rfl ?_); refine store54 rfl rfl (.tmp 6) _ rfl z6 rfl _ _ rfl HS.out.b6 HS.out.sz rfl (cb_one HS.out.rows) ?_; intro w9 hp; have hs := HS.out.put6 hp rfl; clear hp HS; obtain ⟨c0, c1, c3, c4, c5, c6, c8, f8, n0, n1, n2, n3⟩ := hs.cells; have HS := Aside0.mk hs; clear hs))
    refine bodyPost_ret (results_ct rfl _ _ z6 54 _ (0, 0) _ rfl HS.out.b6 Try.underlying54 rfl size54) rfl ?_
    exact cin_done HS.out HE.out
set_option maxHeartbeats 4000000 in
set_option maxRecDepth 100000 in
theorem cin_11 {w0 w : World} {v1 v2 v3 v4 v5 v6 : Value} {c : RC} {k f n t : Int} {s : ByteArray} {N : Nat} (h : Rws w0.heap.size w v1 v2 v3 v4 v5 v6 c) (hb : Below w0.heap.size w0 w) (hl : RLen c N) (hN : N ≤ 64) (hib : 0 ≤ c.id ∧ c.id ≤ 15) (ht : 0 ≤ t ∧ t ≤ 1000000000) (hbad : badF k f n s = false) (hnow : ¬ t < c.now) (hf : f ≠ c.id) (hk : k = 1) (hid : c.id ≠ 0) :
    Calls Try.prog 26 #[cv c v1 v2 v3 v4 v5 v6, .agg #[.int .i64 k, .int .i64 f, .int .i64 n, .string s], .int .i64 t] w (CInPost w0 w (rIn c k f n s t)) := by
  obtain ⟨A1, k1, rfl⟩ := Kd.R_slice h.r1
  have HROW := Aside0.mk h
  have HB := Aside0.mk hb
  have HL := Aside0.mk hl
  have hlt : c.th.length ≤ 64 := by rw [hl.th]; exact hN
  have HIB := Aside0.mk hib
  clear h hb hl hib
  have HE := Aside0.mk (show rIn c k f n s t = (if f = c.id then ({ c with now := t }, 0) else (rOk (rGrow { c with now := t } (if k = 3 then n.toNat else n.toNat + 1) t) k n.toNat s t, 0)) from by unfold rIn; rw [if_neg (by omega), if_neg (by rw [hbad]; decide), if_neg hnow, if_neg (fun q => hid q.1)])
  have HIN := Aside0.mk (show patchbayref3_In.f t 0 1000000000 = some true from by rw [in_v]; congr 1; exact decide_eq_true (by omega))
  have HNF := Aside0.mk (show patchbayref3_NoteFault.f k f n s = some false from by rw [nf_v, hbad])
  have hn := bad_no hbad
  have d3 : decide (t < c.now) = false := decide_eq_false hnow
  have d4 : (c.id == 0) = false := by simpa using hid
  have hE := HE.out
  rw [if_neg hf] at hE
  have d7 : (f == c.id) = false := by simpa using hf
  subst hk
  rw [if_neg (by decide)] at hE
  obtain ⟨i, rfl⟩ : ∃ q : Nat, n = q := ⟨n.toNat, by omega⟩
  rw [Int.toNat_natCast] at hE
  replace HE := Aside0.mk hE
  clear hE hf
  clear hbad hnow hid
  go_enter Try.func26, Try.ntmps26
  go_upto_region 1 with (first | ((with_reducible refine gate_dst (N := 3) rfl ?_); refine box_event ?hg (N := 3) ?hd (cs := #[.int .i64 c.id, .slice A1 c.th.length k1, v2, v3, v4, v5, v6, .int .i64 c.he, .int .i64 c.now, .int .i64 c.rd]) (t := 54) ?hr ?_; (case hd => rfl); (case hg => rfl); (case hr => first | (go_simp; done) | (go_simp; rfl)); intro z3 hz3 w3 q3 b3; have HZ3 := Aside0.mk (And.intro hz3 (And.intro q3 b3)); clear hz3 q3 b3) | ((with_reducible refine gate_dst (N := 4) rfl ?_); refine box_event ?hg (N := 4) ?hd (cs := #[.int .i64 1, .int .i64 f, .int .i64 (i : Int), .string s]) (t := 56) ?hr ?_; (case hd => rfl); (case hg => rfl); (case hr => first | (go_simp; done) | (go_simp; rfl)); intro z4 hz4 w4 q4 b4; have HZ4 := Aside0.mk (And.intro hz4 (And.intro q4 b4)); clear hz4 q4 b4) | ((with_reducible refine gate_dst (N := 6) rfl ?_); refine box_event ?hg (N := 6) ?hd (cs := zb54) (t := 54) ?hr ?_; (case hd => rfl); (case hg => rfl); (case hr => first | (go_simp; done) | (go_simp; rfl)); intro z6 hz6 w6 q6 b6; have HZ6 := Aside0.mk (And.intro hz6 (And.intro q6 b6)); clear hz6 q6 b6))
  obtain ⟨hz3, q3, b3⟩ := HZ3.out
  obtain ⟨hz4, q4, b4⟩ := HZ4.out
  obtain ⟨hz6, q6, b6⟩ := HZ6.out
  have hs : CI w0 w w6 z3 z4 z6 c (.slice A1 c.th.length k1) v2 v3 v4 v5 v6 zb54 1 f (i : Int) s :=
    ⟨blk_below (blk_below q3 b4) b6, blk_below q4 b6, q6, rfl, fun e => by have := blk_lt q3; have := b4.size; omega, by omega, by have := b3.size; have := b4.size; omega, HB.out.size, ((HROW.out.below b3).below b4).below b6, HB.out.trans ((b3.trans ((b4.trans (b6.mono b4.size)).mono b3.size)).mono HB.out.size), KeepC.below (b3.trans ((b4.trans (b6.mono b4.size)).mono b3.size))⟩
  clear HZ3 HZ4 HZ6 hz3 q3 b3 hz4 q4 b4 hz6 q6 b6
  obtain ⟨c0, c1, c3, c4, c5, c6, c8, f8, n0, n1, n2, n3⟩ := hs.cells
  have HS := Aside0.mk hs
  clear hs
  go_upto_region 12 with (first | (go_at_call 7; (with_reducible refine (patchbayref3_In.calls t 0 1000000000 _ _ HIN.out).mono ?_); rintro e' wi ⟨rfl, hdi⟩; have hs := HS.out.on hdi.below; clear hdi HS; obtain ⟨c0, c1, c3, c4, c5, c6, c8, f8, n0, n1, n2, n3⟩ := hs.cells; have HS := Aside0.mk hs; clear hs) | (go_at_call 39; (with_reducible refine (patchbayref3_NoteFault.calls 1 f (i : Int) s _ _ HNF.out).mono ?_); rintro e' wf ⟨rfl, hdf⟩; have hs := HS.out.on hdf; clear hdf HS; obtain ⟨c0, c1, c3, c4, c5, c6, c8, f8, n0, n1, n2, n3⟩ := hs.cells; have HS := Aside0.mk hs; clear hs))
  go_upto_region 13 with (first | ((with_reducible refine gate_ (.load 54 (.tmp 3)) rfl ?_); refine load54 rfl (.tmp 3) rfl z3 rfl _ HS.out.b3 rfl ?_) | (go_at_call 37; (with_reducible refine (copied_calls HS.out.rows HL.out (by omega)).mono ?_); rintro e' wc ⟨u1, u2, u3, u4, u5, u6, rfl, hr, hbc⟩; have hs := HS.out.on hbc; have HR := Aside0.mk (hr.lower HS.out.below.size); clear hr hbc HS; obtain ⟨c0, c1, c3, c4, c5, c6, c8, f8, n0, n1, n2, n3⟩ := hs.cells; have HS := Aside0.mk hs; clear hs) | ((with_reducible refine gate_store (t := 54) (p := 3) rfl ?_); refine store54 rfl rfl (.tmp 3) _ rfl z3 rfl _ _ rfl HS.out.b3 rfl rfl (cb_one HR.out) ?_; intro w9 hp; have hs := HS.out.put3 HR.out hp; clear hp HS HR; obtain ⟨c0, c1, c3, c4, c5, c6, c8, f8, n0, n1, n2, n3⟩ := hs.cells; have HS := Aside0.mk hs; clear hs))
  go_upto_region 14 with fail
  have hs := HS.out.now_ t
  generalize w9.setCell ⟨z3, 8, none⟩ (.int .i64 t) = wn at hs ⊢
  obtain ⟨d, hd⟩ : ∃ d : RC, { c with now := t } = d := ⟨_, rfl⟩
  rw [hd] at hs
  have HLD := Aside0.mk (show RLen d N from by rw [← hd]; exact ⟨HL.out.th, HL.out.fr, HL.out.wt, HL.out.bd, HL.out.ak, HL.out.rp⟩)
  have d8 : (f == d.id) = false := by rw [← hd]; exact d7
  have HID := Aside0.mk (show 0 ≤ d.id ∧ d.id ≤ 15 from by rw [← hd]; exact HIB.out)
  have hE := HE.out
  rw [hd] at hE
  replace HE := Aside0.mk hE
  clear HS hd hE c0 c1 c3 c4 c5 c6 c8 f8 n0 n1 n2 n3
  obtain ⟨c0, c1, c3, c4, c5, c6, c8, f8, n0, n1, n2, n3⟩ := hs.cells
  have HS := Aside0.mk hs
  clear hs
  have HMI := Aside0.mk (show (i : Int) + 1 = ((i + 1 : Nat) : Int) from by omega)
  obtain ⟨g, hgd⟩ : ∃ g, rGrow d (i + 1) t = g := ⟨_, rfl⟩
  have hgl := rgrow_len d N (i + 1) t HLD.out
  have hE := HE.out
  rw [hgd] at hE hgl
  replace HE := Aside0.mk hE
  have HGD := Aside0.mk hgd
  have HGL := Aside0.mk hgl
  have HGI := Aside0.mk (show 0 ≤ g.id ∧ g.id ≤ 15 from by rw [← hgd]; exact HID.out)
  clear hE hgd hgl
  go_upto_region 17 with (first | ((with_reducible refine gate_ (.load 54 (.tmp 3)) rfl ?_); refine load54 rfl (.tmp 3) rfl z3 rfl _ HS.out.b3 rfl ?_) | (go_at_call 38; (with_reducible refine (grow_calls (n := N) (m := (i + 1)) HMI.out HS.out.rows HS.out.below HLD.out (by omega) (by omega)).mono ?_); rintro e' wg ⟨y1, y2, y3, y4, y5, y6, he, hr, hbg, hkg⟩; rw [HGD.out] at he hr; subst he; have HR := Aside0.mk hr; have HBG := Aside0.mk hbg; have HKG := Aside0.mk hkg; have HC := Aside0.mk (HS.out.call hkg hbg).1; clear hr hbg hkg) | ((with_reducible refine gate_store (t := 54) (p := 3) rfl ?_); refine store54 rfl rfl (.tmp 3) _ rfl z3 rfl _ _ rfl HC.out rfl rfl (cb_one HR.out) ?_; intro w9 hp; have hs := HS.out.put3g HKG.out HBG.out HR.out hp; clear hp HS HR c0 c1 c3 c4 c5 c6 c8 f8 n0 n1 n2 n3; obtain ⟨c0, c1, c3, c4, c5, c6, c8, f8, n0, n1, n2, n3⟩ := hs.cells; have HS := Aside0.mk hs; clear hs))
  have hi : i < g.th.length := by have := HGL.out.th; omega
  obtain ⟨b1, hb1⟩ : ∃ b, rdOf false g.th (i : Int) = b := ⟨_, rfl⟩
  obtain ⟨g1, e1, rfl, i1, f1⟩ := HS.out.rows.at1 hi
  rw [hb1] at i1
  have HB1 := Aside0.mk hb1
  clear hb1
  cases b1 with
  | true =>
    have hi3 : i < g.wt.length := by have := HGL.out.wt; omega
    obtain ⟨g3, e3, rfl, i3, f3⟩ := HS.out.rows.at3 (i := i) hi3
    go_upto_region 22 with fail
    have hs := HS.out.put_wt (i := i) false
    obtain ⟨ga, hgn⟩ : ∃ q : RC, { g with wt := g.wt.set i false } = q := ⟨_, rfl⟩
    rw [hgn] at hs
    have HN1 := Aside0.mk hgn
    have HLga := Aside0.mk (show RLen ga _ from by rw [← hgn]; exact rlen_wt HGL.out i false)
    generalize w9.setCell ⟨g3, i, none⟩ (.bool false) = wa at hs ⊢
    clear HS hgn i3 f3 c0 c1 c3 c4 c5 c6 c8 f8 n0 n1 n2 n3
    obtain ⟨c0, c1, c3, c4, c5, c6, c8, f8, n0, n1, n2, n3⟩ := hs.cells
    have HS := Aside0.mk hs
    clear hs
    have hE := HE.out
    have e1 : rOk g 1 i s t = ga := by unfold rOk; rw [if_pos rfl, if_pos HB1.out]; exact HN1.out
    rw [e1] at hE
    replace HE := Aside0.mk hE
    clear hE e1
    go_wp2_with (first | ((with_reducible refine gate_ (.load 54 (.tmp 3)) rfl ?_); refine load54 rfl (.tmp 3) rfl z3 rfl _ HS.out.b3 rfl ?_) | ((with_reducible refine gate_store (t := 54) (p := 6) rfl ?_); refine store54 rfl rfl (.tmp 6) _ rfl z6 rfl _ _ rfl HS.out.b6 HS.out.sz rfl (cb_one HS.out.rows) ?_; intro w9 hp; have hs := HS.out.put6 hp rfl; clear hp HS; obtain ⟨c0, c1, c3, c4, c5, c6, c8, f8, n0, n1, n2, n3⟩ := hs.cells; have HS := Aside0.mk hs; clear hs))
    refine bodyPost_ret (results_ct rfl _ _ z6 54 _ (0, 0) _ rfl HS.out.b6 Try.underlying54 rfl size54) rfl ?_
    exact cin_done HS.out HE.out
  | false =>
    have hi1 : i < g.th.length := by have := HGL.out.th; omega
    go_upto_region 20 with fail
    have hs := HS.out.put_th (i := i) true
    obtain ⟨ga, hgn⟩ : ∃ q : RC, { g with th := g.th.set i true } = q := ⟨_, rfl⟩
    rw [hgn] at hs
    have HN1 := Aside0.mk hgn
    have HLga := Aside0.mk (show RLen ga _ from by rw [← hgn]; exact rlen_th HGL.out i true)
    generalize w9.setCell ⟨g1, i, none⟩ (.bool true) = wa at hs ⊢
    clear HS hgn i1 f1 c0 c1 c3 c4 c5 c6 c8 f8 n0 n1 n2 n3
    obtain ⟨c0, c1, c3, c4, c5, c6, c8, f8, n0, n1, n2, n3⟩ := hs.cells
    have HS := Aside0.mk hs
    clear hs
    have hi4 : i < ga.bd.length := by have := HLga.out.bd; omega
    obtain ⟨g4, e4, rfl, i4, f4⟩ := HS.out.rows.at4 (i := i) hi4
    go_upto_region 21 with fail
    have hs := HS.out.put_bd (i := i) s
    obtain ⟨gb2, hgn⟩ : ∃ q : RC, { ga with bd := ga.bd.set i s } = q := ⟨_, rfl⟩
    rw [hgn] at hs
    have HN2 := Aside0.mk hgn
    have HLgb2 := Aside0.mk (show RLen gb2 _ from by rw [← hgn]; exact rlen_bd HLga.out i s)
    generalize wa.setCell ⟨g4, i, none⟩ (.string s) = wb2 at hs ⊢
    clear HS hgn i4 f4 c0 c1 c3 c4 c5 c6 c8 f8 n0 n1 n2 n3
    obtain ⟨c0, c1, c3, c4, c5, c6, c8, f8, n0, n1, n2, n3⟩ := hs.cells
    have HS := Aside0.mk hs
    clear hs
    have hi3 : i < gb2.wt.length := by have := HLgb2.out.wt; omega
    obtain ⟨g3, e3, rfl, i3, f3⟩ := HS.out.rows.at3 (i := i) hi3
    go_upto_region 22 with fail
    have hs := HS.out.put_wt (i := i) false
    obtain ⟨gd, hgn⟩ : ∃ q : RC, { gb2 with wt := gb2.wt.set i false } = q := ⟨_, rfl⟩
    rw [hgn] at hs
    have HN3 := Aside0.mk hgn
    have HLgd := Aside0.mk (show RLen gd _ from by rw [← hgn]; exact rlen_wt HLgb2.out i false)
    generalize wb2.setCell ⟨g3, i, none⟩ (.bool false) = wd at hs ⊢
    clear HS hgn i3 f3 c0 c1 c3 c4 c5 c6 c8 f8 n0 n1 n2 n3
    obtain ⟨c0, c1, c3, c4, c5, c6, c8, f8, n0, n1, n2, n3⟩ := hs.cells
    have HS := Aside0.mk hs
    clear hs
    have hE := HE.out
    have e1 : rOk g 1 i s t = gd := by unfold rOk; rw [if_pos rfl, if_neg (by rw [HB1.out]; decide), ← HN3.out, ← HN2.out, ← HN1.out]
    rw [e1] at hE
    replace HE := Aside0.mk hE
    clear hE e1
    go_wp2_with (first | ((with_reducible refine gate_ (.load 54 (.tmp 3)) rfl ?_); refine load54 rfl (.tmp 3) rfl z3 rfl _ HS.out.b3 rfl ?_) | ((with_reducible refine gate_store (t := 54) (p := 6) rfl ?_); refine store54 rfl rfl (.tmp 6) _ rfl z6 rfl _ _ rfl HS.out.b6 HS.out.sz rfl (cb_one HS.out.rows) ?_; intro w9 hp; have hs := HS.out.put6 hp rfl; clear hp HS; obtain ⟨c0, c1, c3, c4, c5, c6, c8, f8, n0, n1, n2, n3⟩ := hs.cells; have HS := Aside0.mk hs; clear hs))
    refine bodyPost_ret (results_ct rfl _ _ z6 54 _ (0, 0) _ rfl HS.out.b6 Try.underlying54 rfl size54) rfl ?_
    exact cin_done HS.out HE.out
set_option maxHeartbeats 4000000 in
set_option maxRecDepth 100000 in
theorem cin_20 {w0 w : World} {v1 v2 v3 v4 v5 v6 : Value} {c : RC} {k f n t : Int} {s : ByteArray} {N : Nat} (h : Rws w0.heap.size w v1 v2 v3 v4 v5 v6 c) (hb : Below w0.heap.size w0 w) (hl : RLen c N) (hN : N ≤ 64) (hib : 0 ≤ c.id ∧ c.id ≤ 15) (ht : 0 ≤ t ∧ t ≤ 1000000000) (hbad : badF k f n s = false) (hnow : ¬ t < c.now) (hf : f ≠ c.id) (hk : k = 2) (hid : c.id = 0) (hm : ¬ (c.th.length : Int) < (if k = 3 then n else n + 1)) :
    Calls Try.prog 26 #[cv c v1 v2 v3 v4 v5 v6, .agg #[.int .i64 k, .int .i64 f, .int .i64 n, .string s], .int .i64 t] w (CInPost w0 w (rIn c k f n s t)) := by
  obtain ⟨A1, k1, rfl⟩ := Kd.R_slice h.r1
  have HROW := Aside0.mk h
  have HB := Aside0.mk hb
  have HL := Aside0.mk hl
  have hlt : c.th.length ≤ 64 := by rw [hl.th]; exact hN
  have HIB := Aside0.mk hib
  clear h hb hl hib
  have HE := Aside0.mk (show rIn c k f n s t = (if f = c.id then ({ c with now := t }, 0) else (rOk (rGrow { c with now := t } (if k = 3 then n.toNat else n.toNat + 1) t) k n.toNat s t, 0)) from by unfold rIn; rw [if_neg (by omega), if_neg (by rw [hbad]; decide), if_neg hnow, if_neg (fun q => hm q.2)])
  have HIN := Aside0.mk (show patchbayref3_In.f t 0 1000000000 = some true from by rw [in_v]; congr 1; exact decide_eq_true (by omega))
  have HNF := Aside0.mk (show patchbayref3_NoteFault.f k f n s = some false from by rw [nf_v, hbad])
  have hn := bad_no hbad
  have d3 : decide (t < c.now) = false := decide_eq_false hnow
  have d4 : (c.id == 0) = true := by simpa using hid
  have hE := HE.out
  rw [if_neg hf] at hE
  have d7 : (f == c.id) = false := by simpa using hf
  subst hk
  rw [if_neg (by decide)] at hE
  rw [if_neg (by decide)] at hm
  have d5 : decide ((c.th.length : Int) < n + 1) = false := decide_eq_false hm
  obtain ⟨i, rfl⟩ : ∃ q : Nat, n = q := ⟨n.toNat, by omega⟩
  rw [Int.toNat_natCast] at hE
  replace HE := Aside0.mk hE
  clear hE hf
  clear hbad hnow hid hm
  go_enter Try.func26, Try.ntmps26
  go_upto_region 1 with (first | ((with_reducible refine gate_dst (N := 3) rfl ?_); refine box_event ?hg (N := 3) ?hd (cs := #[.int .i64 c.id, .slice A1 c.th.length k1, v2, v3, v4, v5, v6, .int .i64 c.he, .int .i64 c.now, .int .i64 c.rd]) (t := 54) ?hr ?_; (case hd => rfl); (case hg => rfl); (case hr => first | (go_simp; done) | (go_simp; rfl)); intro z3 hz3 w3 q3 b3; have HZ3 := Aside0.mk (And.intro hz3 (And.intro q3 b3)); clear hz3 q3 b3) | ((with_reducible refine gate_dst (N := 4) rfl ?_); refine box_event ?hg (N := 4) ?hd (cs := #[.int .i64 2, .int .i64 f, .int .i64 (i : Int), .string s]) (t := 56) ?hr ?_; (case hd => rfl); (case hg => rfl); (case hr => first | (go_simp; done) | (go_simp; rfl)); intro z4 hz4 w4 q4 b4; have HZ4 := Aside0.mk (And.intro hz4 (And.intro q4 b4)); clear hz4 q4 b4) | ((with_reducible refine gate_dst (N := 6) rfl ?_); refine box_event ?hg (N := 6) ?hd (cs := zb54) (t := 54) ?hr ?_; (case hd => rfl); (case hg => rfl); (case hr => first | (go_simp; done) | (go_simp; rfl)); intro z6 hz6 w6 q6 b6; have HZ6 := Aside0.mk (And.intro hz6 (And.intro q6 b6)); clear hz6 q6 b6))
  obtain ⟨hz3, q3, b3⟩ := HZ3.out
  obtain ⟨hz4, q4, b4⟩ := HZ4.out
  obtain ⟨hz6, q6, b6⟩ := HZ6.out
  have hs : CI w0 w w6 z3 z4 z6 c (.slice A1 c.th.length k1) v2 v3 v4 v5 v6 zb54 2 f (i : Int) s :=
    ⟨blk_below (blk_below q3 b4) b6, blk_below q4 b6, q6, rfl, fun e => by have := blk_lt q3; have := b4.size; omega, by omega, by have := b3.size; have := b4.size; omega, HB.out.size, ((HROW.out.below b3).below b4).below b6, HB.out.trans ((b3.trans ((b4.trans (b6.mono b4.size)).mono b3.size)).mono HB.out.size), KeepC.below (b3.trans ((b4.trans (b6.mono b4.size)).mono b3.size))⟩
  clear HZ3 HZ4 HZ6 hz3 q3 b3 hz4 q4 b4 hz6 q6 b6
  obtain ⟨c0, c1, c3, c4, c5, c6, c8, f8, n0, n1, n2, n3⟩ := hs.cells
  have HS := Aside0.mk hs
  clear hs
  go_upto_region 12 with (first | (go_at_call 7; (with_reducible refine (patchbayref3_In.calls t 0 1000000000 _ _ HIN.out).mono ?_); rintro e' wi ⟨rfl, hdi⟩; have hs := HS.out.on hdi.below; clear hdi HS; obtain ⟨c0, c1, c3, c4, c5, c6, c8, f8, n0, n1, n2, n3⟩ := hs.cells; have HS := Aside0.mk hs; clear hs) | (go_at_call 39; (with_reducible refine (patchbayref3_NoteFault.calls 2 f (i : Int) s _ _ HNF.out).mono ?_); rintro e' wf ⟨rfl, hdf⟩; have hs := HS.out.on hdf; clear hdf HS; obtain ⟨c0, c1, c3, c4, c5, c6, c8, f8, n0, n1, n2, n3⟩ := hs.cells; have HS := Aside0.mk hs; clear hs))
  go_upto_region 13 with (first | ((with_reducible refine gate_ (.load 54 (.tmp 3)) rfl ?_); refine load54 rfl (.tmp 3) rfl z3 rfl _ HS.out.b3 rfl ?_) | (go_at_call 37; (with_reducible refine (copied_calls HS.out.rows HL.out (by omega)).mono ?_); rintro e' wc ⟨u1, u2, u3, u4, u5, u6, rfl, hr, hbc⟩; have hs := HS.out.on hbc; have HR := Aside0.mk (hr.lower HS.out.below.size); clear hr hbc HS; obtain ⟨c0, c1, c3, c4, c5, c6, c8, f8, n0, n1, n2, n3⟩ := hs.cells; have HS := Aside0.mk hs; clear hs) | ((with_reducible refine gate_store (t := 54) (p := 3) rfl ?_); refine store54 rfl rfl (.tmp 3) _ rfl z3 rfl _ _ rfl HS.out.b3 rfl rfl (cb_one HR.out) ?_; intro w9 hp; have hs := HS.out.put3 HR.out hp; clear hp HS HR; obtain ⟨c0, c1, c3, c4, c5, c6, c8, f8, n0, n1, n2, n3⟩ := hs.cells; have HS := Aside0.mk hs; clear hs))
  go_upto_region 14 with fail
  have hs := HS.out.now_ t
  generalize w9.setCell ⟨z3, 8, none⟩ (.int .i64 t) = wn at hs ⊢
  obtain ⟨d, hd⟩ : ∃ d : RC, { c with now := t } = d := ⟨_, rfl⟩
  rw [hd] at hs
  have HLD := Aside0.mk (show RLen d N from by rw [← hd]; exact ⟨HL.out.th, HL.out.fr, HL.out.wt, HL.out.bd, HL.out.ak, HL.out.rp⟩)
  have d8 : (f == d.id) = false := by rw [← hd]; exact d7
  have HID := Aside0.mk (show 0 ≤ d.id ∧ d.id ≤ 15 from by rw [← hd]; exact HIB.out)
  have hE := HE.out
  rw [hd] at hE
  replace HE := Aside0.mk hE
  clear HS hd hE c0 c1 c3 c4 c5 c6 c8 f8 n0 n1 n2 n3
  obtain ⟨c0, c1, c3, c4, c5, c6, c8, f8, n0, n1, n2, n3⟩ := hs.cells
  have HS := Aside0.mk hs
  clear hs
  have HMI := Aside0.mk (show (i : Int) + 1 = ((i + 1 : Nat) : Int) from by omega)
  obtain ⟨g, hgd⟩ : ∃ g, rGrow d (i + 1) t = g := ⟨_, rfl⟩
  have hgl := rgrow_len d N (i + 1) t HLD.out
  have hE := HE.out
  rw [hgd] at hE hgl
  replace HE := Aside0.mk hE
  have HGD := Aside0.mk hgd
  have HGL := Aside0.mk hgl
  have HGI := Aside0.mk (show 0 ≤ g.id ∧ g.id ≤ 15 from by rw [← hgd]; exact HID.out)
  clear hE hgd hgl
  go_upto_region 17 with (first | ((with_reducible refine gate_ (.load 54 (.tmp 3)) rfl ?_); refine load54 rfl (.tmp 3) rfl z3 rfl _ HS.out.b3 rfl ?_) | (go_at_call 38; (with_reducible refine (grow_calls (n := N) (m := (i + 1)) HMI.out HS.out.rows HS.out.below HLD.out (by omega) (by omega)).mono ?_); rintro e' wg ⟨y1, y2, y3, y4, y5, y6, he, hr, hbg, hkg⟩; rw [HGD.out] at he hr; subst he; have HR := Aside0.mk hr; have HBG := Aside0.mk hbg; have HKG := Aside0.mk hkg; have HC := Aside0.mk (HS.out.call hkg hbg).1; clear hr hbg hkg) | ((with_reducible refine gate_store (t := 54) (p := 3) rfl ?_); refine store54 rfl rfl (.tmp 3) _ rfl z3 rfl _ _ rfl HC.out rfl rfl (cb_one HR.out) ?_; intro w9 hp; have hs := HS.out.put3g HKG.out HBG.out HR.out hp; clear hp HS HR c0 c1 c3 c4 c5 c6 c8 f8 n0 n1 n2 n3; obtain ⟨c0, c1, c3, c4, c5, c6, c8, f8, n0, n1, n2, n3⟩ := hs.cells; have HS := Aside0.mk hs; clear hs))
  have hi : i < g.th.length := by have := HGL.out.th; omega
  obtain ⟨b1, hb1⟩ : ∃ b, rdOf false g.th (i : Int) = b := ⟨_, rfl⟩
  obtain ⟨g1, e1, rfl, i1, f1⟩ := HS.out.rows.at1 hi
  rw [hb1] at i1
  have HB1 := Aside0.mk hb1
  clear hb1
  cases b1 with
  | false =>
    have hi5 : i < g.ak.length := by have := HGL.out.ak; omega
    obtain ⟨g5, e5, rfl, i5, f5⟩ := HS.out.rows.at5 (i := i) hi5
    go_upto_region 24 with fail
    have hs := HS.out.put_ak (i := i) (t + 20)
    obtain ⟨ga, hgn⟩ : ∃ q : RC, { g with ak := g.ak.set i (t + 20) } = q := ⟨_, rfl⟩
    rw [hgn] at hs
    have HN1 := Aside0.mk hgn
    have HLga := Aside0.mk (show RLen ga _ from by rw [← hgn]; exact rlen_ak HGL.out i (t + 20))
    generalize w9.setCell ⟨g5, i, none⟩ (.int .i64 (t + 20)) = wa at hs ⊢
    clear HS hgn i5 f5 c0 c1 c3 c4 c5 c6 c8 f8 n0 n1 n2 n3
    obtain ⟨c0, c1, c3, c4, c5, c6, c8, f8, n0, n1, n2, n3⟩ := hs.cells
    have HS := Aside0.mk hs
    clear hs
    have i1 : wa.cell? ⟨g1, i, none⟩ = some (.bool false) := by
      have q := (HS.out.rows.at1' (i := i) (by have := HLga.out.th; omega)).1
      rw [show ga.th = g.th from by rw [← HN1.out], HB1.out] at q
      exact q
    have hE := HE.out
    have e1 : rOk g 2 i s t = ga := by unfold rOk; rw [if_neg (by decide), if_pos rfl, if_pos HB1.out]; exact HN1.out
    rw [e1] at hE
    replace HE := Aside0.mk hE
    clear hE e1
    go_wp2_with (first | ((with_reducible refine gate_ (.load 54 (.tmp 3)) rfl ?_); refine load54 rfl (.tmp 3) rfl z3 rfl _ HS.out.b3 rfl ?_) | ((with_reducible refine gate_store (t := 54) (p := 6) rfl ?_); refine store54 rfl rfl (.tmp 6) _ rfl z6 rfl _ _ rfl HS.out.b6 HS.out.sz rfl (cb_one HS.out.rows) ?_; intro w9 hp; have hs := HS.out.put6 hp rfl; clear hp HS; obtain ⟨c0, c1, c3, c4, c5, c6, c8, f8, n0, n1, n2, n3⟩ := hs.cells; have HS := Aside0.mk hs; clear hs))
    refine bodyPost_ret (results_ct rfl _ _ z6 54 _ (0, 0) _ rfl HS.out.b6 Try.underlying54 rfl size54) rfl ?_
    exact cin_done HS.out HE.out
  | true =>
    obtain ⟨b3, hb3⟩ : ∃ b, rdOf false g.wt (i : Int) = b := ⟨_, rfl⟩
    have hi3 : i < g.wt.length := by have := HGL.out.wt; omega
    obtain ⟨g3, e3, rfl, i3, f3⟩ := HS.out.rows.at3 (i := i) hi3
    rw [hb3] at i3
    have HB3 := Aside0.mk hb3
    clear hb3
    cases b3 with
    | true =>
      have hE := HE.out
      have e1 : rOk g 2 i s t = g := by unfold rOk; rw [if_neg (by decide), if_pos rfl, if_neg (by rw [HB1.out]; decide), if_neg (by rw [HB3.out]; decide)]
      rw [e1] at hE
      replace HE := Aside0.mk hE
      clear hE e1
      go_wp2_with (first | ((with_reducible refine gate_ (.load 54 (.tmp 3)) rfl ?_); refine load54 rfl (.tmp 3) rfl z3 rfl _ HS.out.b3 rfl ?_) | ((with_reducible refine gate_store (t := 54) (p := 6) rfl ?_); refine store54 rfl rfl (.tmp 6) _ rfl z6 rfl _ _ rfl HS.out.b6 HS.out.sz rfl (cb_one HS.out.rows) ?_; intro w9 hp; have hs := HS.out.put6 hp rfl; clear hp HS; obtain ⟨c0, c1, c3, c4, c5, c6, c8, f8, n0, n1, n2, n3⟩ := hs.cells; have HS := Aside0.mk hs; clear hs))
      refine bodyPost_ret (results_ct rfl _ _ z6 54 _ (0, 0) _ rfl HS.out.b6 Try.underlying54 rfl size54) rfl ?_
      exact cin_done HS.out HE.out
    | false =>
      have hi3 : i < g.wt.length := by have := HGL.out.wt; omega
      go_upto_region 26 with fail
      have hs := HS.out.put_wt (i := i) true
      obtain ⟨ga, hgn⟩ : ∃ q : RC, { g with wt := g.wt.set i true } = q := ⟨_, rfl⟩
      rw [hgn] at hs
      have HN1 := Aside0.mk hgn
      have HLga := Aside0.mk (show RLen ga _ from by rw [← hgn]; exact rlen_wt HGL.out i true)
      generalize w9.setCell ⟨g3, i, none⟩ (.bool true) = wa at hs ⊢
      clear HS hgn i3 f3 c0 c1 c3 c4 c5 c6 c8 f8 n0 n1 n2 n3
      obtain ⟨c0, c1, c3, c4, c5, c6, c8, f8, n0, n1, n2, n3⟩ := hs.cells
      have HS := Aside0.mk hs
      clear hs
      have hgi : 0 ≤ ga.id ∧ ga.id ≤ 15 := by rw [← HN1.out]; exact HGI.out
      have hi6 : i < ga.rp.length := by have := HLga.out.rp; omega
      obtain ⟨g6, e6, rfl, i6, f6⟩ := HS.out.rows.at6 (i := i) hi6
      go_upto_region 27 with fail
      have hs := HS.out.put_rp (i := i) (t + ga.id)
      obtain ⟨gb2, hgn⟩ : ∃ q : RC, { ga with rp := ga.rp.set i (t + ga.id) } = q := ⟨_, rfl⟩
      rw [hgn] at hs
      have HN2 := Aside0.mk hgn
      have HLgb2 := Aside0.mk (show RLen gb2 _ from by rw [← hgn]; exact rlen_rp HLga.out i (t + ga.id))
      generalize wa.setCell ⟨g6, i, none⟩ (.int .i64 (t + ga.id)) = wb2 at hs ⊢
      clear HS hgn i6 f6 c0 c1 c3 c4 c5 c6 c8 f8 n0 n1 n2 n3
      obtain ⟨c0, c1, c3, c4, c5, c6, c8, f8, n0, n1, n2, n3⟩ := hs.cells
      have HS := Aside0.mk hs
      clear hs
      have hE := HE.out
      have e1 : rOk g 2 i s t = gb2 := by unfold rOk; rw [if_neg (by decide), if_pos rfl, if_neg (by rw [HB1.out]; decide), if_pos HB3.out, ← HN2.out, ← HN1.out]
      rw [e1] at hE
      replace HE := Aside0.mk hE
      clear hE e1
      go_wp2_with (first | ((with_reducible refine gate_ (.load 54 (.tmp 3)) rfl ?_); refine load54 rfl (.tmp 3) rfl z3 rfl _ HS.out.b3 rfl ?_) | ((with_reducible refine gate_store (t := 54) (p := 6) rfl ?_); refine store54 rfl rfl (.tmp 6) _ rfl z6 rfl _ _ rfl HS.out.b6 HS.out.sz rfl (cb_one HS.out.rows) ?_; intro w9 hp; have hs := HS.out.put6 hp rfl; clear hp HS; obtain ⟨c0, c1, c3, c4, c5, c6, c8, f8, n0, n1, n2, n3⟩ := hs.cells; have HS := Aside0.mk hs; clear hs))
      refine bodyPost_ret (results_ct rfl _ _ z6 54 _ (0, 0) _ rfl HS.out.b6 Try.underlying54 rfl size54) rfl ?_
      exact cin_done HS.out HE.out
set_option maxHeartbeats 4000000 in
set_option maxRecDepth 100000 in
theorem cin_21 {w0 w : World} {v1 v2 v3 v4 v5 v6 : Value} {c : RC} {k f n t : Int} {s : ByteArray} {N : Nat} (h : Rws w0.heap.size w v1 v2 v3 v4 v5 v6 c) (hb : Below w0.heap.size w0 w) (hl : RLen c N) (hN : N ≤ 64) (hib : 0 ≤ c.id ∧ c.id ≤ 15) (ht : 0 ≤ t ∧ t ≤ 1000000000) (hbad : badF k f n s = false) (hnow : ¬ t < c.now) (hf : f ≠ c.id) (hk : k = 2) (hid : c.id ≠ 0) :
    Calls Try.prog 26 #[cv c v1 v2 v3 v4 v5 v6, .agg #[.int .i64 k, .int .i64 f, .int .i64 n, .string s], .int .i64 t] w (CInPost w0 w (rIn c k f n s t)) := by
  obtain ⟨A1, k1, rfl⟩ := Kd.R_slice h.r1
  have HROW := Aside0.mk h
  have HB := Aside0.mk hb
  have HL := Aside0.mk hl
  have hlt : c.th.length ≤ 64 := by rw [hl.th]; exact hN
  have HIB := Aside0.mk hib
  clear h hb hl hib
  have HE := Aside0.mk (show rIn c k f n s t = (if f = c.id then ({ c with now := t }, 0) else (rOk (rGrow { c with now := t } (if k = 3 then n.toNat else n.toNat + 1) t) k n.toNat s t, 0)) from by unfold rIn; rw [if_neg (by omega), if_neg (by rw [hbad]; decide), if_neg hnow, if_neg (fun q => hid q.1)])
  have HIN := Aside0.mk (show patchbayref3_In.f t 0 1000000000 = some true from by rw [in_v]; congr 1; exact decide_eq_true (by omega))
  have HNF := Aside0.mk (show patchbayref3_NoteFault.f k f n s = some false from by rw [nf_v, hbad])
  have hn := bad_no hbad
  have d3 : decide (t < c.now) = false := decide_eq_false hnow
  have d4 : (c.id == 0) = false := by simpa using hid
  have hE := HE.out
  rw [if_neg hf] at hE
  have d7 : (f == c.id) = false := by simpa using hf
  subst hk
  rw [if_neg (by decide)] at hE
  obtain ⟨i, rfl⟩ : ∃ q : Nat, n = q := ⟨n.toNat, by omega⟩
  rw [Int.toNat_natCast] at hE
  replace HE := Aside0.mk hE
  clear hE hf
  clear hbad hnow hid
  go_enter Try.func26, Try.ntmps26
  go_upto_region 1 with (first | ((with_reducible refine gate_dst (N := 3) rfl ?_); refine box_event ?hg (N := 3) ?hd (cs := #[.int .i64 c.id, .slice A1 c.th.length k1, v2, v3, v4, v5, v6, .int .i64 c.he, .int .i64 c.now, .int .i64 c.rd]) (t := 54) ?hr ?_; (case hd => rfl); (case hg => rfl); (case hr => first | (go_simp; done) | (go_simp; rfl)); intro z3 hz3 w3 q3 b3; have HZ3 := Aside0.mk (And.intro hz3 (And.intro q3 b3)); clear hz3 q3 b3) | ((with_reducible refine gate_dst (N := 4) rfl ?_); refine box_event ?hg (N := 4) ?hd (cs := #[.int .i64 2, .int .i64 f, .int .i64 (i : Int), .string s]) (t := 56) ?hr ?_; (case hd => rfl); (case hg => rfl); (case hr => first | (go_simp; done) | (go_simp; rfl)); intro z4 hz4 w4 q4 b4; have HZ4 := Aside0.mk (And.intro hz4 (And.intro q4 b4)); clear hz4 q4 b4) | ((with_reducible refine gate_dst (N := 6) rfl ?_); refine box_event ?hg (N := 6) ?hd (cs := zb54) (t := 54) ?hr ?_; (case hd => rfl); (case hg => rfl); (case hr => first | (go_simp; done) | (go_simp; rfl)); intro z6 hz6 w6 q6 b6; have HZ6 := Aside0.mk (And.intro hz6 (And.intro q6 b6)); clear hz6 q6 b6))
  obtain ⟨hz3, q3, b3⟩ := HZ3.out
  obtain ⟨hz4, q4, b4⟩ := HZ4.out
  obtain ⟨hz6, q6, b6⟩ := HZ6.out
  have hs : CI w0 w w6 z3 z4 z6 c (.slice A1 c.th.length k1) v2 v3 v4 v5 v6 zb54 2 f (i : Int) s :=
    ⟨blk_below (blk_below q3 b4) b6, blk_below q4 b6, q6, rfl, fun e => by have := blk_lt q3; have := b4.size; omega, by omega, by have := b3.size; have := b4.size; omega, HB.out.size, ((HROW.out.below b3).below b4).below b6, HB.out.trans ((b3.trans ((b4.trans (b6.mono b4.size)).mono b3.size)).mono HB.out.size), KeepC.below (b3.trans ((b4.trans (b6.mono b4.size)).mono b3.size))⟩
  clear HZ3 HZ4 HZ6 hz3 q3 b3 hz4 q4 b4 hz6 q6 b6
  obtain ⟨c0, c1, c3, c4, c5, c6, c8, f8, n0, n1, n2, n3⟩ := hs.cells
  have HS := Aside0.mk hs
  clear hs
  go_upto_region 12 with (first | (go_at_call 7; (with_reducible refine (patchbayref3_In.calls t 0 1000000000 _ _ HIN.out).mono ?_); rintro e' wi ⟨rfl, hdi⟩; have hs := HS.out.on hdi.below; clear hdi HS; obtain ⟨c0, c1, c3, c4, c5, c6, c8, f8, n0, n1, n2, n3⟩ := hs.cells; have HS := Aside0.mk hs; clear hs) | (go_at_call 39; (with_reducible refine (patchbayref3_NoteFault.calls 2 f (i : Int) s _ _ HNF.out).mono ?_); rintro e' wf ⟨rfl, hdf⟩; have hs := HS.out.on hdf; clear hdf HS; obtain ⟨c0, c1, c3, c4, c5, c6, c8, f8, n0, n1, n2, n3⟩ := hs.cells; have HS := Aside0.mk hs; clear hs))
  go_upto_region 13 with (first | ((with_reducible refine gate_ (.load 54 (.tmp 3)) rfl ?_); refine load54 rfl (.tmp 3) rfl z3 rfl _ HS.out.b3 rfl ?_) | (go_at_call 37; (with_reducible refine (copied_calls HS.out.rows HL.out (by omega)).mono ?_); rintro e' wc ⟨u1, u2, u3, u4, u5, u6, rfl, hr, hbc⟩; have hs := HS.out.on hbc; have HR := Aside0.mk (hr.lower HS.out.below.size); clear hr hbc HS; obtain ⟨c0, c1, c3, c4, c5, c6, c8, f8, n0, n1, n2, n3⟩ := hs.cells; have HS := Aside0.mk hs; clear hs) | ((with_reducible refine gate_store (t := 54) (p := 3) rfl ?_); refine store54 rfl rfl (.tmp 3) _ rfl z3 rfl _ _ rfl HS.out.b3 rfl rfl (cb_one HR.out) ?_; intro w9 hp; have hs := HS.out.put3 HR.out hp; clear hp HS HR; obtain ⟨c0, c1, c3, c4, c5, c6, c8, f8, n0, n1, n2, n3⟩ := hs.cells; have HS := Aside0.mk hs; clear hs))
  go_upto_region 14 with fail
  have hs := HS.out.now_ t
  generalize w9.setCell ⟨z3, 8, none⟩ (.int .i64 t) = wn at hs ⊢
  obtain ⟨d, hd⟩ : ∃ d : RC, { c with now := t } = d := ⟨_, rfl⟩
  rw [hd] at hs
  have HLD := Aside0.mk (show RLen d N from by rw [← hd]; exact ⟨HL.out.th, HL.out.fr, HL.out.wt, HL.out.bd, HL.out.ak, HL.out.rp⟩)
  have d8 : (f == d.id) = false := by rw [← hd]; exact d7
  have HID := Aside0.mk (show 0 ≤ d.id ∧ d.id ≤ 15 from by rw [← hd]; exact HIB.out)
  have hE := HE.out
  rw [hd] at hE
  replace HE := Aside0.mk hE
  clear HS hd hE c0 c1 c3 c4 c5 c6 c8 f8 n0 n1 n2 n3
  obtain ⟨c0, c1, c3, c4, c5, c6, c8, f8, n0, n1, n2, n3⟩ := hs.cells
  have HS := Aside0.mk hs
  clear hs
  have HMI := Aside0.mk (show (i : Int) + 1 = ((i + 1 : Nat) : Int) from by omega)
  obtain ⟨g, hgd⟩ : ∃ g, rGrow d (i + 1) t = g := ⟨_, rfl⟩
  have hgl := rgrow_len d N (i + 1) t HLD.out
  have hE := HE.out
  rw [hgd] at hE hgl
  replace HE := Aside0.mk hE
  have HGD := Aside0.mk hgd
  have HGL := Aside0.mk hgl
  have HGI := Aside0.mk (show 0 ≤ g.id ∧ g.id ≤ 15 from by rw [← hgd]; exact HID.out)
  clear hE hgd hgl
  go_upto_region 17 with (first | ((with_reducible refine gate_ (.load 54 (.tmp 3)) rfl ?_); refine load54 rfl (.tmp 3) rfl z3 rfl _ HS.out.b3 rfl ?_) | (go_at_call 38; (with_reducible refine (grow_calls (n := N) (m := (i + 1)) HMI.out HS.out.rows HS.out.below HLD.out (by omega) (by omega)).mono ?_); rintro e' wg ⟨y1, y2, y3, y4, y5, y6, he, hr, hbg, hkg⟩; rw [HGD.out] at he hr; subst he; have HR := Aside0.mk hr; have HBG := Aside0.mk hbg; have HKG := Aside0.mk hkg; have HC := Aside0.mk (HS.out.call hkg hbg).1; clear hr hbg hkg) | ((with_reducible refine gate_store (t := 54) (p := 3) rfl ?_); refine store54 rfl rfl (.tmp 3) _ rfl z3 rfl _ _ rfl HC.out rfl rfl (cb_one HR.out) ?_; intro w9 hp; have hs := HS.out.put3g HKG.out HBG.out HR.out hp; clear hp HS HR c0 c1 c3 c4 c5 c6 c8 f8 n0 n1 n2 n3; obtain ⟨c0, c1, c3, c4, c5, c6, c8, f8, n0, n1, n2, n3⟩ := hs.cells; have HS := Aside0.mk hs; clear hs))
  have hi : i < g.th.length := by have := HGL.out.th; omega
  obtain ⟨b1, hb1⟩ : ∃ b, rdOf false g.th (i : Int) = b := ⟨_, rfl⟩
  obtain ⟨g1, e1, rfl, i1, f1⟩ := HS.out.rows.at1 hi
  rw [hb1] at i1
  have HB1 := Aside0.mk hb1
  clear hb1
  cases b1 with
  | false =>
    have hi5 : i < g.ak.length := by have := HGL.out.ak; omega
    obtain ⟨g5, e5, rfl, i5, f5⟩ := HS.out.rows.at5 (i := i) hi5
    go_upto_region 24 with fail
    have hs := HS.out.put_ak (i := i) (t + 20)
    obtain ⟨ga, hgn⟩ : ∃ q : RC, { g with ak := g.ak.set i (t + 20) } = q := ⟨_, rfl⟩
    rw [hgn] at hs
    have HN1 := Aside0.mk hgn
    have HLga := Aside0.mk (show RLen ga _ from by rw [← hgn]; exact rlen_ak HGL.out i (t + 20))
    generalize w9.setCell ⟨g5, i, none⟩ (.int .i64 (t + 20)) = wa at hs ⊢
    clear HS hgn i5 f5 c0 c1 c3 c4 c5 c6 c8 f8 n0 n1 n2 n3
    obtain ⟨c0, c1, c3, c4, c5, c6, c8, f8, n0, n1, n2, n3⟩ := hs.cells
    have HS := Aside0.mk hs
    clear hs
    have i1 : wa.cell? ⟨g1, i, none⟩ = some (.bool false) := by
      have q := (HS.out.rows.at1' (i := i) (by have := HLga.out.th; omega)).1
      rw [show ga.th = g.th from by rw [← HN1.out], HB1.out] at q
      exact q
    have hE := HE.out
    have e1 : rOk g 2 i s t = ga := by unfold rOk; rw [if_neg (by decide), if_pos rfl, if_pos HB1.out]; exact HN1.out
    rw [e1] at hE
    replace HE := Aside0.mk hE
    clear hE e1
    go_wp2_with (first | ((with_reducible refine gate_ (.load 54 (.tmp 3)) rfl ?_); refine load54 rfl (.tmp 3) rfl z3 rfl _ HS.out.b3 rfl ?_) | ((with_reducible refine gate_store (t := 54) (p := 6) rfl ?_); refine store54 rfl rfl (.tmp 6) _ rfl z6 rfl _ _ rfl HS.out.b6 HS.out.sz rfl (cb_one HS.out.rows) ?_; intro w9 hp; have hs := HS.out.put6 hp rfl; clear hp HS; obtain ⟨c0, c1, c3, c4, c5, c6, c8, f8, n0, n1, n2, n3⟩ := hs.cells; have HS := Aside0.mk hs; clear hs))
    refine bodyPost_ret (results_ct rfl _ _ z6 54 _ (0, 0) _ rfl HS.out.b6 Try.underlying54 rfl size54) rfl ?_
    exact cin_done HS.out HE.out
  | true =>
    obtain ⟨b3, hb3⟩ : ∃ b, rdOf false g.wt (i : Int) = b := ⟨_, rfl⟩
    have hi3 : i < g.wt.length := by have := HGL.out.wt; omega
    obtain ⟨g3, e3, rfl, i3, f3⟩ := HS.out.rows.at3 (i := i) hi3
    rw [hb3] at i3
    have HB3 := Aside0.mk hb3
    clear hb3
    cases b3 with
    | true =>
      have hE := HE.out
      have e1 : rOk g 2 i s t = g := by unfold rOk; rw [if_neg (by decide), if_pos rfl, if_neg (by rw [HB1.out]; decide), if_neg (by rw [HB3.out]; decide)]
      rw [e1] at hE
      replace HE := Aside0.mk hE
      clear hE e1
      go_wp2_with (first | ((with_reducible refine gate_ (.load 54 (.tmp 3)) rfl ?_); refine load54 rfl (.tmp 3) rfl z3 rfl _ HS.out.b3 rfl ?_) | ((with_reducible refine gate_store (t := 54) (p := 6) rfl ?_); refine store54 rfl rfl (.tmp 6) _ rfl z6 rfl _ _ rfl HS.out.b6 HS.out.sz rfl (cb_one HS.out.rows) ?_; intro w9 hp; have hs := HS.out.put6 hp rfl; clear hp HS; obtain ⟨c0, c1, c3, c4, c5, c6, c8, f8, n0, n1, n2, n3⟩ := hs.cells; have HS := Aside0.mk hs; clear hs))
      refine bodyPost_ret (results_ct rfl _ _ z6 54 _ (0, 0) _ rfl HS.out.b6 Try.underlying54 rfl size54) rfl ?_
      exact cin_done HS.out HE.out
    | false =>
      have hi3 : i < g.wt.length := by have := HGL.out.wt; omega
      go_upto_region 26 with fail
      have hs := HS.out.put_wt (i := i) true
      obtain ⟨ga, hgn⟩ : ∃ q : RC, { g with wt := g.wt.set i true } = q := ⟨_, rfl⟩
      rw [hgn] at hs
      have HN1 := Aside0.mk hgn
      have HLga := Aside0.mk (show RLen ga _ from by rw [← hgn]; exact rlen_wt HGL.out i true)
      generalize w9.setCell ⟨g3, i, none⟩ (.bool true) = wa at hs ⊢
      clear HS hgn i3 f3 c0 c1 c3 c4 c5 c6 c8 f8 n0 n1 n2 n3
      obtain ⟨c0, c1, c3, c4, c5, c6, c8, f8, n0, n1, n2, n3⟩ := hs.cells
      have HS := Aside0.mk hs
      clear hs
      have hgi : 0 ≤ ga.id ∧ ga.id ≤ 15 := by rw [← HN1.out]; exact HGI.out
      have hi6 : i < ga.rp.length := by have := HLga.out.rp; omega
      obtain ⟨g6, e6, rfl, i6, f6⟩ := HS.out.rows.at6 (i := i) hi6
      go_upto_region 27 with fail
      have hs := HS.out.put_rp (i := i) (t + ga.id)
      obtain ⟨gb2, hgn⟩ : ∃ q : RC, { ga with rp := ga.rp.set i (t + ga.id) } = q := ⟨_, rfl⟩
      rw [hgn] at hs
      have HN2 := Aside0.mk hgn
      have HLgb2 := Aside0.mk (show RLen gb2 _ from by rw [← hgn]; exact rlen_rp HLga.out i (t + ga.id))
      generalize wa.setCell ⟨g6, i, none⟩ (.int .i64 (t + ga.id)) = wb2 at hs ⊢
      clear HS hgn i6 f6 c0 c1 c3 c4 c5 c6 c8 f8 n0 n1 n2 n3
      obtain ⟨c0, c1, c3, c4, c5, c6, c8, f8, n0, n1, n2, n3⟩ := hs.cells
      have HS := Aside0.mk hs
      clear hs
      have hE := HE.out
      have e1 : rOk g 2 i s t = gb2 := by unfold rOk; rw [if_neg (by decide), if_pos rfl, if_neg (by rw [HB1.out]; decide), if_pos HB3.out, ← HN2.out, ← HN1.out]
      rw [e1] at hE
      replace HE := Aside0.mk hE
      clear hE e1
      go_wp2_with (first | ((with_reducible refine gate_ (.load 54 (.tmp 3)) rfl ?_); refine load54 rfl (.tmp 3) rfl z3 rfl _ HS.out.b3 rfl ?_) | ((with_reducible refine gate_store (t := 54) (p := 6) rfl ?_); refine store54 rfl rfl (.tmp 6) _ rfl z6 rfl _ _ rfl HS.out.b6 HS.out.sz rfl (cb_one HS.out.rows) ?_; intro w9 hp; have hs := HS.out.put6 hp rfl; clear hp HS; obtain ⟨c0, c1, c3, c4, c5, c6, c8, f8, n0, n1, n2, n3⟩ := hs.cells; have HS := Aside0.mk hs; clear hs))
      refine bodyPost_ret (results_ct rfl _ _ z6 54 _ (0, 0) _ rfl HS.out.b6 Try.underlying54 rfl size54) rfl ?_
      exact cin_done HS.out HE.out
theorem cin_calls {w0 w : World} {v1 v2 v3 v4 v5 v6 : Value} {c : RC} {k f n t : Int} {s : ByteArray} {N : Nat} (h : Rws w0.heap.size w v1 v2 v3 v4 v5 v6 c) (hb : Below w0.heap.size w0 w) (hl : RLen c N) (hN : N ≤ 64) (hib : 0 ≤ c.id ∧ c.id ≤ 15) :
    Calls Try.prog 26 #[cv c v1 v2 v3 v4 v5 v6, .agg #[.int .i64 k, .int .i64 f, .int .i64 n, .string s], .int .i64 t] w (CInPost w0 w (rIn c k f n s t)) := by
  by_cases ht : t < 0 ∨ 1000000000 < t
  · exact cin_arg h hb hl hN hib ht
  have ht2 : 0 ≤ t ∧ t ≤ 1000000000 := by omega
  by_cases hbad : badF k f n s = true
  · exact cin_bad h hb hl hN hib ht2 hbad
  have hbad2 : badF k f n s = false := by simpa using hbad
  have hno := bad_no hbad2
  by_cases hnow : t < c.now
  · exact cin_old h hb hl hN hib ht2 hbad2 hnow
  by_cases hid : c.id = 0
  · by_cases hm : (c.th.length : Int) < (if k = 3 then n else n + 1)
    · by_cases hk : k = 3
      · rw [if_pos hk] at hm
        exact cin_range3 h hb hl hN hib ht2 hbad2 hnow hk hid hm
      · rw [if_neg hk] at hm
        exact cin_range0 h hb hl hN hib ht2 hbad2 hnow hk hid hm
    by_cases hf : f = c.id
    · by_cases hk : k = 3
      · exact cin_a03 h hb hl hN hib ht2 hbad2 hnow hf hid hm hk
      · exact cin_a0 h hb hl hN hib ht2 hbad2 hnow hf hid hm hk
    rcases (show k = 3 ∨ k = 1 ∨ k = 2 from by omega) with hk | hk | hk
    · exact cin_30 h hb hl hN hib ht2 hbad2 hnow hf hk hid hm
    · exact cin_10 h hb hl hN hib ht2 hbad2 hnow hf hk hid hm
    · exact cin_20 h hb hl hN hib ht2 hbad2 hnow hf hk hid hm
  · by_cases hf : f = c.id
    · by_cases hk : k = 3
      · exact cin_a13 h hb hl hN hib ht2 hbad2 hnow hf hid hk
      · exact cin_a1 h hb hl hN hib ht2 hbad2 hnow hf hid hk
    rcases (show k = 3 ∨ k = 1 ∨ k = 2 from by omega) with hk | hk | hk
    · exact cin_31 h hb hl hN hib ht2 hbad2 hnow hf hk hid
    · exact cin_11 h hb hl hN hib ht2 hbad2 hnow hf hk hid
    · exact cin_21 h hb hl hN hib ht2 hbad2 hnow hf hk hid
end Go.Proofs.Ytcllcjflgeiehaa.PCastPlays
