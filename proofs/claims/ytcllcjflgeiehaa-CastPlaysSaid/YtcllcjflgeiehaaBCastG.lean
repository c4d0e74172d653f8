/- Proved: what In of the reference's member does. -/
import Derived.Test.YtcllcjflgeiehaaBCastF
import Derived.Deep.DeepCutAuto
namespace Go.Proofs.Ytcllcjflgeiehaa.PCastPlays
open Go.RowKit Go.Proofs.YtcllcjflgeiehaaW.PrintWords Go.Proofs.YtcllcjflgeiehaaW.PrintLast Go.Proofs.YtcllcjflgeiehaaW.PrintMore
set_option linter.unusedVariables false
set_option linter.unusedSimpArgs false
theorem cb_one {B : Nat} {W : World} {v1 v2 v3 v4 v5 v6 : Value} {c : RC} (h : Rws B W v1 v2 v3 v4 v5 v6 c) : ∀ q ∈ (cb c v1 v2 v3 v4 v5 v6).toList, q.oneCell' = true := by
  intro q hq
  simp only [cb, List.mem_cons, List.not_mem_nil, or_false] at hq
  rcases hq with rfl | rfl | rfl | rfl | rfl | rfl | rfl | rfl | rfl | rfl
  · rfl
  · exact (Kd.R_val h.r1).2
  · exact (Kd.R_val h.r2).2
  · exact (Kd.R_val h.r3).2
  · exact (Kd.R_val h.r4).2
  · exact (Kd.R_val h.r5).2
  · exact (Kd.R_val h.r6).2
  · rfl
  · rfl
  · rfl
theorem CI.put3g {w0 w W W1 W' : World} {z3 z4 z6 : Nat} {c c' : RC} {v1 v2 v3 v4 v5 v6 u1 u2 u3 u4 u5 u6 : Value} {bs : Array Value} {k f n : Int} {s : ByteArray} (h : CI w0 w W z3 z4 z6 c v1 v2 v3 v4 v5 v6 bs k f n s) (hk : KeepC W W1) (hb : Below w0.heap.size w0 W1) (hr : Rws w0.heap.size W1 u1 u2 u3 u4 u5 u6 c') (hp : Put54 W1 W' z3 (cb c' u1 u2 u3 u4 u5 u6)) : CI w0 w W' z3 z4 z6 c' u1 u2 u3 u4 u5 u6 bs k f n s := by
  obtain ⟨a1, a2, a3, a4⟩ := h.call hk hb
  exact ⟨hp.blk, (hp.far _ (z4_ne a1 a2)).trans a2, (hp.far _ h.n36.symm).trans a3, h.sz, h.n36, h.g3, h.g6, h.ge, hp.rows a1 hr, hp.below hb (Nat.le_trans h.ge h.g3), keepC_far a4 h.g3 hp.size hp.far⟩
theorem in_v (a b c : Int) : patchbayref3_In.f a b c = some (decide (b ≤ a ∧ a ≤ c)) := by
  unfold patchbayref3_In.f
  by_cases h : b ≤ a
  · rw [if_pos h]; simp [h]
  · rw [if_neg h]; simp [h]
theorem nf_v (k f n : Int) (s : ByteArray) : patchbayref3_NoteFault.f k f n s = some (badF k f n s) := by
  unfold patchbayref3_NoteFault.f badF
  simp only [in_v, Option.bind_some, decide_eq_true_eq]
  by_cases h3 : k = 3
  · subst h3
    simp only [if_true]
    (repeat' split) <;> simp only [Option.some.injEq, decide_eq_decide, eq_comm (a := true), decide_eq_true_eq] <;> omega
  · simp only [if_neg h3]
    (repeat' split) <;> simp only [Option.some.injEq, decide_eq_decide, eq_comm (a := true), decide_eq_true_eq] <;> omega
def rOk (c : RC) (k : Int) (i : Nat) (s : ByteArray) (t : Int) : RC :=
  if k = 1 then (if rdOf false c.th (i : Int) = true then { c with wt := c.wt.set i false } else { c with th := c.th.set i true, bd := c.bd.set i s, wt := c.wt.set i false })
  else if k = 2 then (if rdOf false c.th (i : Int) = false then { c with ak := c.ak.set i (t + 20) } else if rdOf false c.wt (i : Int) = false then { c with wt := c.wt.set i true, rp := c.rp.set i (t + c.id) } else c)
  else c
def rIn (c : RC) (k f n : Int) (s : ByteArray) (t : Int) : RC × Int :=
  if t < 0 ∨ 1000000000 < t then (c, 1)
  else if badF k f n s = true then (c, 3)
  else if t < c.now then (c, 13)
  else if c.id = 0 ∧ (c.th.length : Int) < (if k = 3 then n else n + 1) then (c, 10)
  else if f = c.id then ({ c with now := t }, 0)
  else (rOk (rGrow { c with now := t } (if k = 3 then n.toNat else n.toNat + 1) t) k n.toNat s t, 0)
def CInPost (w0 w : World) (r : RC × Int) (e : Ending) (w' : World) : Prop := ∃ u1 u2 u3 u4 u5 u6, e = .returned (.tuple #[cv r.1 u1 u2 u3 u4 u5 u6, .int .i64 r.2]) ∧ Rws w0.heap.size w' u1 u2 u3 u4 u5 u6 r.1 ∧ Below w0.heap.size w0 w' ∧ KeepC w w'
theorem cin_done {w0 w W : World} {z3 z4 z6 : Nat} {c : RC} {v1 v2 v3 v4 v5 v6 : Value} {k f n : Int} {s : ByteArray} {r : RC × Int} {er : Int} (h : CI w0 w W z3 z4 z6 c v1 v2 v3 v4 v5 v6 (cb c v1 v2 v3 v4 v5 v6) k f n s) (hr : r = (c, er)) : CInPost w0 w r (.returned (.tuple #[.agg (cb c v1 v2 v3 v4 v5 v6), .int .i64 er])) W := by
  subst hr
  exact ⟨_, _, _, _, _, _, rfl, h.rows, h.below, h.keep⟩
set_option maxHeartbeats 4000000 in
set_option maxRecDepth 100000 in
theorem cin_arg {w0 w : World} {v1 v2 v3 v4 v5 v6 : Value} {c : RC} {k f n t : Int} {s : ByteArray} {N : Nat} (h : Rws w0.heap.size w v1 v2 v3 v4 v5 v6 c) (hb : Below w0.heap.size w0 w) (hl : RLen c N) (hN : N ≤ 64) (hib : 0 ≤ c.id ∧ c.id ≤ 15) (ht : t < 0 ∨ 1000000000 < t) :
    Calls Try.prog 26 #[cv c v1 v2 v3 v4 v5 v6, .agg #[.int .i64 k, .int .i64 f, .int .i64 n, .string s], .int .i64 t] w (CInPost w0 w (rIn c k f n s t)) := by
  obtain ⟨A1, k1, rfl⟩ := Kd.R_slice h.r1
  have HROW := Aside0.mk h
  have HB := Aside0.mk hb
  have HL := Aside0.mk hl
  have hlt : c.th.length ≤ 64 := by rw [hl.th]; exact hN
  have HIB := Aside0.mk hib
  clear h hb hl hib
  have HE := Aside0.mk (show rIn c k f n s t = (c, 1) from by unfold rIn; rw [if_pos ht])
  have HIN := Aside0.mk (show patchbayref3_In.f t 0 1000000000 = some false from by rw [in_v]; congr 1; exact decide_eq_false (by omega))
  clear ht
  go_enter Try.func26, Try.ntmps26
  go_upto_region 1 with (first | ((with_reducible refine gate_dst (N := 3) rfl ?_); refine box_event ?hg (N := 3) ?hd (cs := #[.int .i64 c.id, .slice A1 c.th.length k1, v2, v3, v4, v5, v6, .int .i64 c.he, .int .i64 c.now, .int .i64 c.rd]) (t := 54) ?hr ?_; (case hd => rfl); (case hg => rfl); (case hr => first | (go_simp; done) | (go_simp; rfl)); intro z3 hz3 w3 q3 b3; have HZ3 := Aside0.mk (And.intro hz3 (And.intro q3 b3)); clear hz3 q3 b3) | ((with_reducible refine gate_dst (N := 4) rfl ?_); refine box_event ?hg (N := 4) ?hd (cs := #[.int .i64 k, .int .i64 f, .int .i64 n, .string s]) (t := 56) ?hr ?_; (case hd => rfl); (case hg => rfl); (case hr => first | (go_simp; done) | (go_simp; rfl)); intro z4 hz4 w4 q4 b4; have HZ4 := Aside0.mk (And.intro hz4 (And.intro q4 b4)); clear hz4 q4 b4) | ((with_reducible refine gate_dst (N := 6) rfl ?_); refine box_event ?hg (N := 6) ?hd (cs := zb54) (t := 54) ?hr ?_; (case hd => rfl); (case hg => rfl); (case hr => first | (go_simp; done) | (go_simp; rfl)); intro z6 hz6 w6 q6 b6; have HZ6 := Aside0.mk (And.intro hz6 (And.intro q6 b6)); clear hz6 q6 b6))
  obtain ⟨hz3, q3, b3⟩ := HZ3.out
  obtain ⟨hz4, q4, b4⟩ := HZ4.out
  obtain ⟨hz6, q6, b6⟩ := HZ6.out
  have hs : CI w0 w w6 z3 z4 z6 c (.slice A1 c.th.length k1) v2 v3 v4 v5 v6 zb54 k f n s :=
    ⟨blk_below (blk_below q3 b4) b6, blk_below q4 b6, q6, rfl, fun e => by have := blk_lt q3; have := b4.size; omega, by omega, by have := b3.size; have := b4.size; omega, HB.out.size, ((HROW.out.below b3).below b4).below b6, HB.out.trans ((b3.trans ((b4.trans (b6.mono b4.size)).mono b3.size)).mono HB.out.size), KeepC.below (b3.trans ((b4.trans (b6.mono b4.size)).mono b3.size))⟩
  clear HZ3 HZ4 HZ6 hz3 q3 b3 hz4 q4 b4 hz6 q6 b6
  obtain ⟨c0, c1, c3, c4, c5, c6, c8, f8, n0, n1, n2, n3⟩ := hs.cells
  have HS := Aside0.mk hs
  clear hs
  go_wp2_with (first | (go_at_call 7; (with_reducible refine (patchbayref3_In.calls t 0 1000000000 _ _ HIN.out).mono ?_); rintro e' wi ⟨rfl, hdi⟩; have hs := HS.out.on hdi.below; clear hdi HS; obtain ⟨c0, c1, c3, c4, c5, c6, c8, f8, n0, n1, n2, n3⟩ := hs.cells; have HS := Aside0.mk hs; clear hs) | ((with_reducible refine gate_ (.load 54 (.tmp 3)) rfl ?_); refine load54 rfl (.tmp 3) rfl z3 rfl _ HS.out.b3 rfl ?_) | ((with_reducible refine gate_store (t := 54) (p := 6) rfl ?_); refine store54 rfl rfl (.tmp 6) _ rfl z6 rfl _ _ rfl HS.out.b6 HS.out.sz rfl (cb_one HS.out.rows) ?_; intro w9 hp; have hs := HS.out.put6 hp rfl; clear hp HS; obtain ⟨c0, c1, c3, c4, c5, c6, c8, f8, n0, n1, n2, n3⟩ := hs.cells; have HS := Aside0.mk hs; clear hs))
  refine bodyPost_ret (results_ct rfl _ _ z6 54 _ (0, 0) _ rfl HS.out.b6 Try.underlying54 rfl size54) rfl ?_
  exact cin_done HS.out HE.out
set_option maxHeartbeats 4000000 in
set_option maxRecDepth 100000 in
theorem cin_bad {w0 w : World} {v1 v2 v3 v4 v5 v6 : Value} {c : RC} {k f n t : Int} {s : ByteArray} {N : Nat} (h : Rws w0.heap.size w v1 v2 v3 v4 v5 v6 c) (hb : Below w0.heap.size w0 w) (hl : RLen c N) (hN : N ≤ 64) (hib : 0 ≤ c.id ∧ c.id ≤ 15) (ht : 0 ≤ t ∧ t ≤ 1000000000) (hbad : badF k f n s = true) :
    Calls Try.prog 26 #[cv c v1 v2 v3 v4 v5 v6, .agg #[.int .i64 k, .int .i64 f, .int .i64 n, .string s], .int .i64 t] w (CInPost w0 w (rIn c k f n s t)) := by
  obtain ⟨A1, k1, rfl⟩ := Kd.R_slice h.r1
  have HROW := Aside0.mk h
  have HB := Aside0.mk hb
  have HL := Aside0.mk hl
  have hlt : c.th.length ≤ 64 := by rw [hl.th]; exact hN
  have HIB := Aside0.mk hib
  clear h hb hl hib
  have HE := Aside0.mk (show rIn c k f n s t = (c, 3) from by unfold rIn; rw [if_neg (by omega), if_pos hbad])
  have HIN := Aside0.mk (show patchbayref3_In.f t 0 1000000000 = some true from by rw [in_v]; congr 1; exact decide_eq_true (by omega))
  have HNF := Aside0.mk (show patchbayref3_NoteFault.f k f n s = some true from by rw [nf_v, hbad])
  clear ht hbad
  go_enter Try.func26, Try.ntmps26
  go_upto_region 1 with (first | ((with_reducible refine gate_dst (N := 3) rfl ?_); refine box_event ?hg (N := 3) ?hd (cs := #[.int .i64 c.id, .slice A1 c.th.length k1, v2, v3, v4, v5, v6, .int .i64 c.he, .int .i64 c.now, .int .i64 c.rd]) (t := 54) ?hr ?_; (case hd => rfl); (case hg => rfl); (case hr => first | (go_simp; done) | (go_simp; rfl)); intro z3 hz3 w3 q3 b3; have HZ3 := Aside0.mk (And.intro hz3 (And.intro q3 b3)); clear hz3 q3 b3) | ((with_reducible refine gate_dst (N := 4) rfl ?_); refine box_event ?hg (N := 4) ?hd (cs := #[.int .i64 k, .int .i64 f, .int .i64 n, .string s]) (t := 56) ?hr ?_; (case hd => rfl); (case hg => rfl); (case hr => first | (go_simp; done) | (go_simp; rfl)); intro z4 hz4 w4 q4 b4; have HZ4 := Aside0.mk (And.intro hz4 (And.intro q4 b4)); clear hz4 q4 b4) | ((with_reducible refine gate_dst (N := 6) rfl ?_); refine box_event ?hg (N := 6) ?hd (cs := zb54) (t := 54) ?hr ?_; (case hd => rfl); (case hg => rfl); (case hr => first | (go_simp; done) | (go_simp; rfl)); intro z6 hz6 w6 q6 b6; have HZ6 := Aside0.mk (And.intro hz6 (And.intro q6 b6)); clear hz6 q6 b6))
  obtain ⟨hz3, q3, b3⟩ := HZ3.out
  obtain ⟨hz4, q4, b4⟩ := HZ4.out
  obtain ⟨hz6, q6, b6⟩ := HZ6.out
  have hs : CI w0 w w6 z3 z4 z6 c (.slice A1 c.th.length k1) v2 v3 v4 v5 v6 zb54 k f n s :=
    ⟨blk_below (blk_below q3 b4) b6, blk_below q4 b6, q6, rfl, fun e => by have := blk_lt q3; have := b4.size; omega, by omega, by have := b3.size; have := b4.size; omega, HB.out.size, ((HROW.out.below b3).below b4).below b6, HB.out.trans ((b3.trans ((b4.trans (b6.mono b4.size)).mono b3.size)).mono HB.out.size), KeepC.below (b3.trans ((b4.trans (b6.mono b4.size)).mono b3.size))⟩
  clear HZ3 HZ4 HZ6 hz3 q3 b3 hz4 q4 b4 hz6 q6 b6
  obtain ⟨c0, c1, c3, c4, c5, c6, c8, f8, n0, n1, n2, n3⟩ := hs.cells
  have HS := Aside0.mk hs
  clear hs
  go_wp2_with (first | (go_at_call 7; (with_reducible refine (patchbayref3_In.calls t 0 1000000000 _ _ HIN.out).mono ?_); rintro e' wi ⟨rfl, hdi⟩; have hs := HS.out.on hdi.below; clear hdi HS; obtain ⟨c0, c1, c3, c4, c5, c6, c8, f8, n0, n1, n2, n3⟩ := hs.cells; have HS := Aside0.mk hs; clear hs) | (go_at_call 39; (with_reducible refine (patchbayref3_NoteFault.calls k f n s _ _ HNF.out).mono ?_); rintro e' wf ⟨rfl, hdf⟩; have hs := HS.out.on hdf; clear hdf HS; obtain ⟨c0, c1, c3, c4, c5, c6, c8, f8, n0, n1, n2, n3⟩ := hs.cells; have HS := Aside0.mk hs; clear hs) | ((with_reducible refine gate_ (.load 54 (.tmp 3)) rfl ?_); refine load54 rfl (.tmp 3) rfl z3 rfl _ HS.out.b3 rfl ?_) | ((with_reducible refine gate_store (t := 54) (p := 6) rfl ?_); refine store54 rfl rfl (.tmp 6) _ rfl z6 rfl _ _ rfl HS.out.b6 HS.out.sz rfl (cb_one HS.out.rows) ?_; intro w9 hp; have hs := HS.out.put6 hp rfl; clear hp HS; obtain ⟨c0, c1, c3, c4, c5, c6, c8, f8, n0, n1, n2, n3⟩ := hs.cells; have HS := Aside0.mk hs; clear hs))
  refine bodyPost_ret (results_ct rfl _ _ z6 54 _ (0, 0) _ rfl HS.out.b6 Try.underlying54 rfl size54) rfl ?_
  exact cin_done HS.out HE.out
set_option maxHeartbeats 4000000 in
set_option maxRecDepth 100000 in
theorem cin_old {w0 w : World} {v1 v2 v3 v4 v5 v6 : Value} {c : RC} {k f n t : Int} {s : ByteArray} {N : Nat} (h : Rws w0.heap.size w v1 v2 v3 v4 v5 v6 c) (hb : Below w0.heap.size w0 w) (hl : RLen c N) (hN : N ≤ 64) (hib : 0 ≤ c.id ∧ c.id ≤ 15) (ht : 0 ≤ t ∧ t ≤ 1000000000) (hbad : badF k f n s = false) (hnow : t < c.now) :
    Calls Try.prog 26 #[cv c v1 v2 v3 v4 v5 v6, .agg #[.int .i64 k, .int .i64 f, .int .i64 n, .string s], .int .i64 t] w (CInPost w0 w (rIn c k f n s t)) := by
  obtain ⟨A1, k1, rfl⟩ := Kd.R_slice h.r1
  have HROW := Aside0.mk h
  have HB := Aside0.mk hb
  have HL := Aside0.mk hl
  have hlt : c.th.length ≤ 64 := by rw [hl.th]; exact hN
  have HIB := Aside0.mk hib
  clear h hb hl hib
  have HE := Aside0.mk (show rIn c k f n s t = (c, 13) from by unfold rIn; rw [if_neg (by omega), if_neg (by rw [hbad]; decide), if_pos hnow])
  have HIN := Aside0.mk (show patchbayref3_In.f t 0 1000000000 = some true from by rw [in_v]; congr 1; exact decide_eq_true (by omega))
  have HNF := Aside0.mk (show patchbayref3_NoteFault.f k f n s = some false from by rw [nf_v, hbad])
  have d3 : decide (t < c.now) = true := decide_eq_true hnow
  clear ht hbad hnow
  go_enter Try.func26, Try.ntmps26
  go_upto_region 1 with (first | ((with_reducible refine gate_dst (N := 3) rfl ?_); refine box_event ?hg (N := 3) ?hd (cs := #[.int .i64 c.id, .slice A1 c.th.length k1, v2, v3, v4, v5, v6, .int .i64 c.he, .int .i64 c.now, .int .i64 c.rd]) (t := 54) ?hr ?_; (case hd => rfl); (case hg => rfl); (case hr => first | (go_simp; done) | (go_simp; rfl)); intro z3 hz3 w3 q3 b3; have HZ3 := Aside0.mk (And.intro hz3 (And.intro q3 b3)); clear hz3 q3 b3) | ((with_reducible refine gate_dst (N := 4) rfl ?_); refine box_event ?hg (N := 4) ?hd (cs := #[.int .i64 k, .int .i64 f, .int .i64 n, .string s]) (t := 56) ?hr ?_; (case hd => rfl); (case hg => rfl); (case hr => first | (go_simp; done) | (go_simp; rfl)); intro z4 hz4 w4 q4 b4; have HZ4 := Aside0.mk (And.intro hz4 (And.intro q4 b4)); clear hz4 q4 b4) | ((with_reducible refine gate_dst (N := 6) rfl ?_); refine box_event ?hg (N := 6) ?hd (cs := zb54) (t := 54) ?hr ?_; (case hd => rfl); (case hg => rfl); (case hr => first | (go_simp; done) | (go_simp; rfl)); intro z6 hz6 w6 q6 b6; have HZ6 := Aside0.mk (And.intro hz6 (And.intro q6 b6)); clear hz6 q6 b6))
  obtain ⟨hz3, q3, b3⟩ := HZ3.out
  obtain ⟨hz4, q4, b4⟩ := HZ4.out
  obtain ⟨hz6, q6, b6⟩ := HZ6.out
  have hs : CI w0 w w6 z3 z4 z6 c (.slice A1 c.th.length k1) v2 v3 v4 v5 v6 zb54 k f n s :=
    ⟨blk_below (blk_below q3 b4) b6, blk_below q4 b6, q6, rfl, fun e => by have := blk_lt q3; have := b4.size; omega, by omega, by have := b3.size; have := b4.size; omega, HB.out.size, ((HROW.out.below b3).below b4).below b6, HB.out.trans ((b3.trans ((b4.trans (b6.mono b4.size)).mono b3.size)).mono HB.out.size), KeepC.below (b3.trans ((b4.trans (b6.mono b4.size)).mono b3.size))⟩
  clear HZ3 HZ4 HZ6 hz3 q3 b3 hz4 q4 b4 hz6 q6 b6
  obtain ⟨c0, c1, c3, c4, c5, c6, c8, f8, n0, n1, n2, n3⟩ := hs.cells
  have HS := Aside0.mk hs
  clear hs
  go_wp2_with (first | (go_at_call 7; (with_reducible refine (patchbayref3_In.calls t 0 1000000000 _ _ HIN.out).mono ?_); rintro e' wi ⟨rfl, hdi⟩; have hs := HS.out.on hdi.below; clear hdi HS; obtain ⟨c0, c1, c3, c4, c5, c6, c8, f8, n0, n1, n2, n3⟩ := hs.cells; have HS := Aside0.mk hs; clear hs) | (go_at_call 39; (with_reducible refine (patchbayref3_NoteFault.calls k f n s _ _ HNF.out).mono ?_); rintro e' wf ⟨rfl, hdf⟩; have hs := HS.out.on hdf; clear hdf HS; obtain ⟨c0, c1, c3, c4, c5, c6, c8, f8, n0, n1, n2, n3⟩ := hs.cells; have HS := Aside0.mk hs; clear hs) | ((with_reducible refine gate_ (.load 54 (.tmp 3)) rfl ?_); refine load54 rfl (.tmp 3) rfl z3 rfl _ HS.out.b3 rfl ?_) | ((with_reducible refine gate_store (t := 54) (p := 6) rfl ?_); refine store54 rfl rfl (.tmp 6) _ rfl z6 rfl _ _ rfl HS.out.b6 HS.out.sz rfl (cb_one HS.out.rows) ?_; intro w9 hp; have hs := HS.out.put6 hp rfl; clear hp HS; obtain ⟨c0, c1, c3, c4, c5, c6, c8, f8, n0, n1, n2, n3⟩ := hs.cells; have HS := Aside0.mk hs; clear hs))
  refine bodyPost_ret (results_ct rfl _ _ z6 54 _ (0, 0) _ rfl HS.out.b6 Try.underlying54 rfl size54) rfl ?_
  exact cin_done HS.out HE.out
set_option maxHeartbeats 4000000 in
set_option maxRecDepth 100000 in
theorem cin_range3 {w0 w : World} {v1 v2 v3 v4 v5 v6 : Value} {c : RC} {k f n t : Int} {s : ByteArray} {N : Nat} (h : Rws w0.heap.size w v1 v2 v3 v4 v5 v6 c) (hb : Below w0.heap.size w0 w) (hl : RLen c N) (hN : N ≤ 64) (hib : 0 ≤ c.id ∧ c.id ≤ 15) (ht : 0 ≤ t ∧ t ≤ 1000000000) (hbad : badF k f n s = false) (hnow : ¬ t < c.now) (hk : k = 3) (hid : c.id = 0) (hm : (c.th.length : Int) < n) :
    Calls Try.prog 26 #[cv c v1 v2 v3 v4 v5 v6, .agg #[.int .i64 k, .int .i64 f, .int .i64 n, .string s], .int .i64 t] w (CInPost w0 w (rIn c k f n s t)) := by
  obtain ⟨A1, k1, rfl⟩ := Kd.R_slice h.r1
  have HROW := Aside0.mk h
  have HB := Aside0.mk hb
  have HL := Aside0.mk hl
  have hlt : c.th.length ≤ 64 := by rw [hl.th]; exact hN
  have HIB := Aside0.mk hib
  clear h hb hl hib
  have HE := Aside0.mk (show rIn c k f n s t = (c, 10) from by unfold rIn; rw [if_neg (by omega), if_neg (by rw [hbad]; decide), if_neg hnow, if_pos ⟨hid, by rw [if_pos hk]; exact hm⟩])
  have HIN := Aside0.mk (show patchbayref3_In.f t 0 1000000000 = some true from by rw [in_v]; congr 1; exact decide_eq_true (by omega))
  have HNF := Aside0.mk (show patchbayref3_NoteFault.f k f n s = some false from by rw [nf_v, hbad])
  have hn := bad_no hbad
  have d3 : decide (t < c.now) = false := decide_eq_false hnow
  have d4 : (c.id == 0) = true := by simpa using hid
  have d5 : decide ((c.th.length : Int) < n) = true := decide_eq_true hm
  have d6 : (k == 3) = true := by simpa using hk
  clear ht hbad hnow hid hm hk
  go_enter Try.func26, Try.ntmps26
  go_upto_region 1 with (first | ((with_reducible refine gate_dst (N := 3) rfl ?_); refine box_event ?hg (N := 3) ?hd (cs := #[.int .i64 c.id, .slice A1 c.th.length k1, v2, v3, v4, v5, v6, .int .i64 c.he, .int .i64 c.now, .int .i64 c.rd]) (t := 54) ?hr ?_; (case hd => rfl); (case hg => rfl); (case hr => first | (go_simp; done) | (go_simp; rfl)); intro z3 hz3 w3 q3 b3; have HZ3 := Aside0.mk (And.intro hz3 (And.intro q3 b3)); clear hz3 q3 b3) | ((with_reducible refine gate_dst (N := 4) rfl ?_); refine box_event ?hg (N := 4) ?hd (cs := #[.int .i64 k, .int .i64 f, .int .i64 n, .string s]) (t := 56) ?hr ?_; (case hd => rfl); (case hg => rfl); (case hr => first | (go_simp; done) | (go_simp; rfl)); intro z4 hz4 w4 q4 b4; have HZ4 := Aside0.mk (And.intro hz4 (And.intro q4 b4)); clear hz4 q4 b4) | ((with_reducible refine gate_dst (N := 6) rfl ?_); refine box_event ?hg (N := 6) ?hd (cs := zb54) (t := 54) ?hr ?_; (case hd => rfl); (case hg => rfl); (case hr => first | (go_simp; done) | (go_simp; rfl)); intro z6 hz6 w6 q6 b6; have HZ6 := Aside0.mk (And.intro hz6 (And.intro q6 b6)); clear hz6 q6 b6))
  obtain ⟨hz3, q3, b3⟩ := HZ3.out
  obtain ⟨hz4, q4, b4⟩ := HZ4.out
  obtain ⟨hz6, q6, b6⟩ := HZ6.out
  have hs : CI w0 w w6 z3 z4 z6 c (.slice A1 c.th.length k1) v2 v3 v4 v5 v6 zb54 k f n s :=
    ⟨blk_below (blk_below q3 b4) b6, blk_below q4 b6, q6, rfl, fun e => by have := blk_lt q3; have := b4.size; omega, by omega, by have := b3.size; have := b4.size; omega, HB.out.size, ((HROW.out.below b3).below b4).below b6, HB.out.trans ((b3.trans ((b4.trans (b6.mono b4.size)).mono b3.size)).mono HB.out.size), KeepC.below (b3.trans ((b4.trans (b6.mono b4.size)).mono b3.size))⟩
  clear HZ3 HZ4 HZ6 hz3 q3 b3 hz4 q4 b4 hz6 q6 b6
  obtain ⟨c0, c1, c3, c4, c5, c6, c8, f8, n0, n1, n2, n3⟩ := hs.cells
  have HS := Aside0.mk hs
  clear hs
  go_wp2_with (first | (go_at_call 7; (with_reducible refine (patchbayref3_In.calls t 0 1000000000 _ _ HIN.out).mono ?_); rintro e' wi ⟨rfl, hdi⟩; have hs := HS.out.on hdi.below; clear hdi HS; obtain ⟨c0, c1, c3, c4, c5, c6, c8, f8, n0, n1, n2, n3⟩ := hs.cells; have HS := Aside0.mk hs; clear hs) | (go_at_call 39; (with_reducible refine (patchbayref3_NoteFault.calls k f n s _ _ HNF.out).mono ?_); rintro e' wf ⟨rfl, hdf⟩; have hs := HS.out.on hdf; clear hdf HS; obtain ⟨c0, c1, c3, c4, c5, c6, c8, f8, n0, n1, n2, n3⟩ := hs.cells; have HS := Aside0.mk hs; clear hs) | ((with_reducible refine gate_ (.load 54 (.tmp 3)) rfl ?_); refine load54 rfl (.tmp 3) rfl z3 rfl _ HS.out.b3 rfl ?_) | ((with_reducible refine gate_store (t := 54) (p := 6) rfl ?_); refine store54 rfl rfl (.tmp 6) _ rfl z6 rfl _ _ rfl HS.out.b6 HS.out.sz rfl (cb_one HS.out.rows) ?_; intro w9 hp; have hs := HS.out.put6 hp rfl; clear hp HS; obtain ⟨c0, c1, c3, c4, c5, c6, c8, f8, n0, n1, n2, n3⟩ := hs.cells; have HS := Aside0.mk hs; clear hs))
  refine bodyPost_ret (results_ct rfl _ _ z6 54 _ (0, 0) _ rfl HS.out.b6 Try.underlying54 rfl size54) rfl ?_
  exact cin_done HS.out HE.out
set_option maxHeartbeats 4000000 in
set_option maxRecDepth 100000 in
theorem cin_range0 {w0 w : World} {v1 v2 v3 v4 v5 v6 : Value} {c : RC} {k f n t : Int} {s : ByteArray} {N : Nat} (h : Rws w0.heap.size w v1 v2 v3 v4 v5 v6 c) (hb : Below w0.heap.size w0 w) (hl : RLen c N) (hN : N ≤ 64) (hib : 0 ≤ c.id ∧ c.id ≤ 15) (ht : 0 ≤ t ∧ t ≤ 1000000000) (hbad : badF k f n s = false) (hnow : ¬ t < c.now) (hk : k ≠ 3) (hid : c.id = 0) (hm : (c.th.length : Int) < n + 1) :
    Calls Try.prog 26 #[cv c v1 v2 v3 v4 v5 v6, .agg #[.int .i64 k, .int .i64 f, .int .i64 n, .string s], .int .i64 t] w (CInPost w0 w (rIn c k f n s t)) := by
  obtain ⟨A1, k1, rfl⟩ := Kd.R_slice h.r1
  have HROW := Aside0.mk h
  have HB := Aside0.mk hb
  have HL := Aside0.mk hl
  have hlt : c.th.length ≤ 64 := by rw [hl.th]; exact hN
  have HIB := Aside0.mk hib
  clear h hb hl hib
  have HE := Aside0.mk (show rIn c k f n s t = (c, 10) from by unfold rIn; rw [if_neg (by omega), if_neg (by rw [hbad]; decide), if_neg hnow, if_pos ⟨hid, by rw [if_neg hk]; exact hm⟩])
  have HIN := Aside0.mk (show patchbayref3_In.f t 0 1000000000 = some true from by rw [in_v]; congr 1; exact decide_eq_true (by omega))
  have HNF := Aside0.mk (show patchbayref3_NoteFault.f k f n s = some false from by rw [nf_v, hbad])
  have hn := bad_no hbad
  have d3 : decide (t < c.now) = false := decide_eq_false hnow
  have d4 : (c.id == 0) = true := by simpa using hid
  have d5 : decide ((c.th.length : Int) < n + 1) = true := decide_eq_true hm
  have d6 : (k == 3) = false := by simpa using hk
  clear ht hbad hnow hid hm hk
  go_enter Try.func26, Try.ntmps26
  go_upto_region 1 with (first | ((with_reducible refine gate_dst (N := 3) rfl ?_); refine box_event ?hg (N := 3) ?hd (cs := #[.int .i64 c.id, .slice A1 c.th.length k1, v2, v3, v4, v5, v6, .int .i64 c.he, .int .i64 c.now, .int .i64 c.rd]) (t := 54) ?hr ?_; (case hd => rfl); (case hg => rfl); (case hr => first | (go_simp; done) | (go_simp; rfl)); intro z3 hz3 w3 q3 b3; have HZ3 := Aside0.mk (And.intro hz3 (And.intro q3 b3)); clear hz3 q3 b3) | ((with_reducible refine gate_dst (N := 4) rfl ?_); refine box_event ?hg (N := 4) ?hd (cs := #[.int .i64 k, .int .i64 f, .int .i64 n, .string s]) (t := 56) ?hr ?_; (case hd => rfl); (case hg => rfl); (case hr => first | (go_simp; done) | (go_simp; rfl)); intro z4 hz4 w4 q4 b4; have HZ4 := Aside0.mk (And.intro hz4 (And.intro q4 b4)); clear hz4 q4 b4) | ((with_reducible refine gate_dst (N := 6) rfl ?_); refine box_event ?hg (N := 6) ?hd (cs := zb54) (t := 54) ?hr ?_; (case hd => rfl); (case hg => rfl); (case hr => first | (go_simp; done) | (go_simp; rfl)); intro z6 hz6 w6 q6 b6; have HZ6 := Aside0.mk (And.intro hz6 (And.intro q6 b6)); clear hz6 q6 b6))
  obtain ⟨hz3, q3, b3⟩ := HZ3.out
  obtain ⟨hz4, q4, b4⟩ := HZ4.out
  obtain ⟨hz6, q6, b6⟩ := HZ6.out
  have hs : CI w0 w w6 z3 z4 z6 c (.slice A1 c.th.length k1) v2 v3 v4 v5 v6 zb54 k f n s :=
    ⟨blk_below (blk_below q3 b4) b6, blk_below q4 b6, q6, rfl, fun e => by have := blk_lt q3; have := b4.size; omega, by omega, by have := b3.size; have := b4.size; omega, HB.out.size, ((HROW.out.below b3).below b4).below b6, HB.out.trans ((b3.trans ((b4.trans (b6.mono b4.size)).mono b3.size)).mono HB.out.size), KeepC.below (b3.trans ((b4.trans (b6.mono b4.size)).mono b3.size))⟩
  clear HZ3 HZ4 HZ6 hz3 q3 b3 hz4 q4 b4 hz6 q6 b6
  obtain ⟨c0, c1, c3, c4, c5, c6, c8, f8, n0, n1, n2, n3⟩ := hs.cells
  have HS := Aside0.mk hs
  clear hs
  go_wp2_with (first | (go_at_call 7; (with_reducible refine (patchbayref3_In.calls t 0 1000000000 _ _ HIN.out).mono ?_); rintro e' wi ⟨rfl, hdi⟩; have hs := HS.out.on hdi.below; clear hdi HS; obtain ⟨c0, c1, c3, c4, c5, c6, c8, f8, n0, n1, n2, n3⟩ := hs.cells; have HS := Aside0.mk hs; clear hs) | (go_at_call 39; (with_reducible refine (patchbayref3_NoteFault.calls k f n s _ _ HNF.out).mono ?_); rintro e' wf ⟨rfl, hdf⟩; have hs := HS.out.on hdf; clear hdf HS; obtain ⟨c0, c1, c3, c4, c5, c6, c8, f8, n0, n1, n2, n3⟩ := hs.cells; have HS := Aside0.mk hs; clear hs) | ((with_reducible refine gate_ (.load 54 (.tmp 3)) rfl ?_); refine load54 rfl (.tmp 3) rfl z3 rfl _ HS.out.b3 rfl ?_) | ((with_reducible refine gate_store (t := 54) (p := 6) rfl ?_); refine store54 rfl rfl (.tmp 6) _ rfl z6 rfl _ _ rfl HS.out.b6 HS.out.sz rfl (cb_one HS.out.rows) ?_; intro w9 hp; have hs := HS.out.put6 hp rfl; clear hp HS; obtain ⟨c0, c1, c3, c4, c5, c6, c8, f8, n0, n1, n2, n3⟩ := hs.cells; have HS := Aside0.mk hs; clear hs))
  refine bodyPost_ret (results_ct rfl _ _ z6 54 _ (0, 0) _ rfl HS.out.b6 Try.underlying54 rfl size54) rfl ?_
  exact cin_done HS.out HE.out
end Go.Proofs.Ytcllcjflgeiehaa.PCastPlays
