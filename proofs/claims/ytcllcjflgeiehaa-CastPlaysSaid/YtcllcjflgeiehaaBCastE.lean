/- Proved: words for a walk over the reference's member: a whole struct loaded and stored, and the state inside In. -/
import Derived.Test.YtcllcjflgeiehaaBCastC
import Derived.Test.YtcllcjflgeiehaaBCastN
namespace Go.Proofs.Ytcllcjflgeiehaa.PCastPlays
open Go.RowKit Go.Proofs.YtcllcjflgeiehaaW.PrintWords Go.Proofs.YtcllcjflgeiehaaW.PrintLast Go.Proofs.YtcllcjflgeiehaaW.PrintMore
set_option linter.unusedVariables false
set_option linter.unusedSimpArgs false
theorem size54 : (Try.prog.info? 54).map (·.size) = some 10 := by kernel_rfl
theorem load54 {ops : Array Oper} {rest : List Oper} {o : Oper} {a : Act} {W : World} {Q : Exit → Act → World → Prop} (hgd : o.guard = none) (p : Operand) (ho : o.op = .load 54 p) (z : Nat) (hx : a.eval p = .pointer (some ⟨z, 0, none⟩)) (cs : Array Value) (hg : W.heap[z]? = some (.cells cs 54 (0, 0))) (hs : cs.size = 10) (h : wpList Try.prog ops Q rest (a.put o.dst (.agg cs)) W) : wpList Try.prog ops Q (o :: rest) a W :=
  wpList_load_row hgd 54 p ho z hx 54 cs (0, 0) _ hg Try.underlying54 rfl (by rw [hs]; exact size54) h
/-- What a whole struct's store leaves. -/
structure Put54 (W w1 : World) (z : Nat) (bs : Array Value) : Prop where
  blk : w1.heap[z]? = some (.cells bs 54 (0, 0))
  far : ∀ k, k ≠ z → w1.heap[k]? = W.heap[k]?
  size : w1.heap.size = W.heap.size
  os : w1.os = W.os
  tape : w1.tape = W.tape
  output : w1.output = W.output
theorem store54 {ops : Array Oper} {rest : List Oper} {o : Oper} {a : Act} {W : World} {Q : Exit → Act → World → Prop} (hN : o.dst = none) (hgd : o.guard = none) (p x : Operand) (ho : o.op = .store 54 p x) (z : Nat) (haddr : a.eval p = .pointer (some ⟨z, 0, none⟩)) (bs cs : Array Value) (hx : a.eval x = .agg bs) (hblk : W.heap[z]? = some (.cells cs 54 (0, 0))) (hcs : cs.size = 10) (hbs : bs.size = 10) (h1 : ∀ q ∈ bs.toList, q.oneCell' = true)
    (h : ∀ w1, Put54 W w1 z bs → wpList Try.prog ops Q rest a w1) : wpList Try.prog ops Q (o :: rest) a W := by
  have hl : bs.toList.length = 10 := by rw [Array.length_toList]; exact hbs
  have hrun : (Instr.storeAt 54 (.pointer (some ⟨z, 0, none⟩)) (.agg bs)).run Try.prog W = .ok () (W.setCells z 0 bs.toList) :=
    run_store_run 54 (.agg bs) bs.toList hblk rfl (by rw [hl]; exact size54) (by rw [hl, hcs]; omega) h1
  obtain ⟨cur, h2, h3, h4⟩ := setCells_row bs.toList 0 W cs hblk (by rw [hl, hcs]; omega)
  obtain ⟨s1, s2, s3, s4⟩ := setCells_same z bs.toList 0 W
  have hcur : cur = bs := by
    have : cur.toList = bs.toList := by rw [h4, List.take_zero, List.nil_append, List.drop_eq_nil_of_le (by rw [Array.length_toList, hcs, hl]; omega), List.append_nil]
    exact Array.toList_inj.1 this
  rw [hcur] at h2
  refine wpList_plain hgd fun K hK => ?_
  unfold Oper.wp execOp
  simp only [ho, haddr, hx, Sem.run_bind, Sem.run_pure, Result.andThen_ok, hrun]
  show K (a.put o.dst undef) _
  rw [hN]
  exact hK _ _ (h _ ⟨h2, fun k hk => setCells_far bs.toList 0 k hk, s4, s1, s2, s3⟩)
theorem Put54.below {W w1 w0 : World} {z B : Nat} {bs : Array Value} (h : Put54 W w1 z bs) (hb : Below B w0 W) (hz : B ≤ z) : Below B w0 w1 :=
  ⟨h.os.trans hb.os, h.tape.trans hb.tape, h.output.trans hb.output, by rw [h.size]; exact hb.size, fun k hk => (h.far k (by omega)).trans (hb.block k hk)⟩
theorem Rws.step {B : Nat} {W w1 : World} {v1 v2 v3 v4 v5 v6 : Value} {c : RC} (hr : Rws B W v1 v2 v3 v4 v5 v6 c) (h : ∀ (k t : Nat) (cs : Array Value), W.heap[k]? = some (Obj.cells cs t (0, 0)) → (t = 3 ∨ t = 4 ∨ t = 9) → w1.heap[k]? = W.heap[k]?) : Rws B w1 v1 v2 v3 v4 v5 v6 c :=
  ⟨Kd.R_step hr.r1 (fun k ho _ => by obtain ⟨_, h2⟩ := Kd.R_typed hr.r1 k ho.symm; exact h k _ _ h2 (by decide)),
   Kd.R_step hr.r2 (fun k ho _ => by obtain ⟨_, h2⟩ := Kd.R_typed hr.r2 k ho.symm; exact h k _ _ h2 (by decide)),
   Kd.R_step hr.r3 (fun k ho _ => by obtain ⟨_, h2⟩ := Kd.R_typed hr.r3 k ho.symm; exact h k _ _ h2 (by decide)),
   Kd.R_step hr.r4 (fun k ho _ => by obtain ⟨_, h2⟩ := Kd.R_typed hr.r4 k ho.symm; exact h k _ _ h2 (by decide)),
   Kd.R_step hr.r5 (fun k ho _ => by obtain ⟨_, h2⟩ := Kd.R_typed hr.r5 k ho.symm; exact h k _ _ h2 (by decide)),
   Kd.R_step hr.r6 (fun k ho _ => by obtain ⟨_, h2⟩ := Kd.R_typed hr.r6 k ho.symm; exact h k _ _ h2 (by decide)), hr.d12, hr.d13, hr.d23, hr.d56⟩
theorem Put54.rows {W w1 : World} {z B : Nat} {bs cs : Array Value} {v1 v2 v3 v4 v5 v6 : Value} {c : RC} (h : Put54 W w1 z bs) (hz : W.heap[z]? = some (.cells cs 54 (0, 0))) (hr : Rws B W v1 v2 v3 v4 v5 v6 c) : Rws B w1 v1 v2 v3 v4 v5 v6 c :=
  hr.step (fun k t cs2 hk ht => h.far k (fun e => by
    subst e
    have := typed_ne hz hk
    omega))
def zb54 : Array Value := #[.int .i64 0, .slice none 0 0, .slice none 0 0, .slice none 0 0, .slice none 0 0, .slice none 0 0, .slice none 0 0, .int .i64 0, .int .i64 0, .int .i64 0]
abbrev cb (c : RC) (v1 v2 v3 v4 v5 v6 : Value) : Array Value := #[.int .i64 c.id, v1, v2, v3, v4, v5, v6, .int .i64 c.he, .int .i64 c.now, .int .i64 c.rd]
/-- The state inside In: the receiver's box, the note's box, the result's box. -/
structure CI (w0 w W : World) (z3 z4 z6 : Nat) (c : RC) (v1 v2 v3 v4 v5 v6 : Value) (bs : Array Value) (k f n : Int) (s : ByteArray) : Prop where
  b3 : W.heap[z3]? = some (.cells (cb c v1 v2 v3 v4 v5 v6) 54 (0, 0))
  b4 : W.heap[z4]? = some (.cells #[.int .i64 k, .int .i64 f, .int .i64 n, .string s] 56 (0, 0))
  b6 : W.heap[z6]? = some (.cells bs 54 (0, 0))
  sz : bs.size = 10
  n36 : z3 ≠ z6
  g3 : w.heap.size ≤ z3
  g6 : w.heap.size ≤ z6
  ge : w0.heap.size ≤ w.heap.size
  rows : Rws w0.heap.size W v1 v2 v3 v4 v5 v6 c
  below : Below w0.heap.size w0 W
  keep : KeepC w W
theorem CI.on {w0 w W W' : World} {z3 z4 z6 : Nat} {c : RC} {v1 v2 v3 v4 v5 v6 : Value} {bs : Array Value} {k f n : Int} {s : ByteArray} (h : CI w0 w W z3 z4 z6 c v1 v2 v3 v4 v5 v6 bs k f n s) (hb : Below W.heap.size W W') : CI w0 w W' z3 z4 z6 c v1 v2 v3 v4 v5 v6 bs k f n s :=
  ⟨blk_below h.b3 hb, blk_below h.b4 hb, blk_below h.b6 hb, h.sz, h.n36, h.g3, h.g6, h.ge, h.rows.below hb, h.below.trans (hb.mono h.below.size), h.keep.trans (KeepC.below hb)⟩
theorem keepC_far {w W w1 : World} {z : Nat} (h : KeepC w W) (hz : w.heap.size ≤ z) (hs : w1.heap.size = W.heap.size) (hf : ∀ k, k ≠ z → w1.heap[k]? = W.heap[k]?) : KeepC w w1 :=
  ⟨by rw [hs]; exact h.1, fun k t cs hk h1 h2 h3 => (hf k (fun e => by have := blk_lt hk; omega)).trans (h.2 k t cs hk h1 h2 h3)⟩
theorem z4_ne {W : World} {z z4 : Nat} {cs cs2 : Array Value} (h : W.heap[z]? = some (Obj.cells cs 54 (0, 0))) (h2 : W.heap[z4]? = some (Obj.cells cs2 56 (0, 0))) : z4 ≠ z := fun e => by
  subst e
  exact absurd (typed_ne h h2) (by decide)
/-- The result's box is written. -/
theorem CI.put6 {w0 w W W' : World} {z3 z4 z6 : Nat} {c : RC} {v1 v2 v3 v4 v5 v6 : Value} {bs bs2 : Array Value} {k f n : Int} {s : ByteArray} (h : CI w0 w W z3 z4 z6 c v1 v2 v3 v4 v5 v6 bs k f n s) (hp : Put54 W W' z6 bs2) (hs : bs2.size = 10) : CI w0 w W' z3 z4 z6 c v1 v2 v3 v4 v5 v6 bs2 k f n s :=
  ⟨(hp.far _ h.n36).trans h.b3, (hp.far _ (z4_ne h.b6 h.b4)).trans h.b4, hp.blk, hs, h.n36, h.g3, h.g6, h.ge, hp.rows h.b6 h.rows, hp.below h.below (Nat.le_trans h.ge h.g6), keepC_far h.keep h.g6 hp.size hp.far⟩
/-- The receiver's box is written: other rows, another state. -/
theorem CI.put3 {w0 w W W' : World} {z3 z4 z6 : Nat} {c c' : RC} {v1 v2 v3 v4 v5 v6 u1 u2 u3 u4 u5 u6 : Value} {bs : Array Value} {k f n : Int} {s : ByteArray} (h : CI w0 w W z3 z4 z6 c v1 v2 v3 v4 v5 v6 bs k f n s) (hr : Rws w0.heap.size W u1 u2 u3 u4 u5 u6 c') (hp : Put54 W W' z3 (cb c' u1 u2 u3 u4 u5 u6)) : CI w0 w W' z3 z4 z6 c' u1 u2 u3 u4 u5 u6 bs k f n s :=
  ⟨hp.blk, (hp.far _ (z4_ne h.b3 h.b4)).trans h.b4, (hp.far _ h.n36.symm).trans h.b6, h.sz, h.n36, h.g3, h.g6, h.ge, hp.rows h.b3 hr, hp.below h.below (Nat.le_trans h.ge h.g3), keepC_far h.keep h.g3 hp.size hp.far⟩
/-- Calls of Copied and grow leave the boxes. -/
theorem CI.call {w0 w W W' : World} {z3 z4 z6 : Nat} {c : RC} {v1 v2 v3 v4 v5 v6 : Value} {bs : Array Value} {k f n : Int} {s : ByteArray} (h : CI w0 w W z3 z4 z6 c v1 v2 v3 v4 v5 v6 bs k f n s) (hk : KeepC W W') (hb : Below w0.heap.size w0 W') :
    W'.heap[z3]? = some (.cells (cb c v1 v2 v3 v4 v5 v6) 54 (0, 0)) ∧ W'.heap[z4]? = some (.cells #[.int .i64 k, .int .i64 f, .int .i64 n, .string s] 56 (0, 0)) ∧ W'.heap[z6]? = some (.cells bs 54 (0, 0)) ∧ KeepC w W' :=
  ⟨hk.2 _ _ _ h.b3 (by decide) (by decide) (by decide), hk.2 _ _ _ h.b4 (by decide) (by decide) (by decide), hk.2 _ _ _ h.b6 (by decide) (by decide) (by decide), h.keep.trans hk⟩
theorem CI.cells {w0 w W : World} {z3 z4 z6 : Nat} {c : RC} {v1 v2 v3 v4 v5 v6 : Value} {bs : Array Value} {k f n : Int} {s : ByteArray} (h : CI w0 w W z3 z4 z6 c v1 v2 v3 v4 v5 v6 bs k f n s) :
    W.cell? ⟨z3, 0, none⟩ = some (.int .i64 c.id) ∧ W.cell? ⟨z3, 1, none⟩ = some v1 ∧ W.cell? ⟨z3, 3, none⟩ = some v3 ∧ W.cell? ⟨z3, 4, none⟩ = some v4 ∧ W.cell? ⟨z3, 5, none⟩ = some v5 ∧ W.cell? ⟨z3, 6, none⟩ = some v6 ∧ W.cell? ⟨z3, 8, none⟩ = some (.int .i64 c.now) ∧ W.frozen? ⟨z3, 8, none⟩ = false ∧
    W.cell? ⟨z4, 0, none⟩ = some (.int .i64 k) ∧ W.cell? ⟨z4, 1, none⟩ = some (.int .i64 f) ∧ W.cell? ⟨z4, 2, none⟩ = some (.int .i64 n) ∧ W.cell? ⟨z4, 3, none⟩ = some (.string s) :=
  ⟨(blk_cell h.b3 0).trans rfl, (blk_cell h.b3 1).trans rfl, (blk_cell h.b3 3).trans rfl, (blk_cell h.b3 4).trans rfl, (blk_cell h.b3 5).trans rfl, (blk_cell h.b3 6).trans rfl, (blk_cell h.b3 8).trans rfl, blk_frozen h.b3 8, (blk_cell h.b4 0).trans rfl, (blk_cell h.b4 1).trans rfl, (blk_cell h.b4 2).trans rfl, (blk_cell h.b4 3).trans rfl⟩
/-- The time is written. -/
theorem CI.now_ {w0 w W : World} {z3 z4 z6 : Nat} {c : RC} {v1 v2 v3 v4 v5 v6 : Value} {bs : Array Value} {k f n : Int} {s : ByteArray} (h : CI w0 w W z3 z4 z6 c v1 v2 v3 v4 v5 v6 bs k f n s) (t : Int) : CI w0 w (W.setCell ⟨z3, 8, none⟩ (.int .i64 t)) z3 z4 z6 { c with now := t } v1 v2 v3 v4 v5 v6 bs k f n s := by
  have hp : Put54 W (W.setCell ⟨z3, 8, none⟩ (.int .i64 t)) z3 (cb { c with now := t } v1 v2 v3 v4 v5 v6) :=
    ⟨(blk_set h.b3 8 _).trans rfl, fun k hk => Below.heap_setCell W ⟨z3, 8, none⟩ _ k hk, by simp, rfl, rfl, rfl⟩
  exact h.put3 (c' := { c with now := t }) ⟨h.rows.r1, h.rows.r2, h.rows.r3, h.rows.r4, h.rows.r5, h.rows.r6, h.rows.d12, h.rows.d13, h.rows.d23, h.rows.d56⟩ hp
/-- A row is written. -/
theorem CI.rowput {w0 w W W' : World} {z3 z4 z6 g t : Nat} {c c' : RC} {v1 v2 v3 v4 v5 v6 : Value} {cs : Array Value} {bs : Array Value} {k f n : Int} {s : ByteArray} (h : CI w0 w W z3 z4 z6 c v1 v2 v3 v4 v5 v6 bs k f n s) (hg : W.heap[g]? = some (Obj.cells cs t (0, 0))) (ht : t = 3 ∨ t = 4 ∨ t = 9) (hge : w0.heap.size ≤ g) (hw : W.grownBy W' (some g)) (hb : Below w0.heap.size w0 W') (hr : Rws w0.heap.size W' v1 v2 v3 v4 v5 v6 c') (hc : cb c' v1 v2 v3 v4 v5 v6 = cb c v1 v2 v3 v4 v5 v6) : CI w0 w W' z3 z4 z6 c' v1 v2 v3 v4 v5 v6 bs k f n s := by
  have hk : KeepC W W' := ⟨hw.size, fun k t2 cs2 h2 n3 n4 n9 => (hw.block k (blk_lt h2) (fun e => by
    injection e with e
    subst e
    have := typed_ne hg h2
    omega)).trans h2⟩
  obtain ⟨a1, a2, a3, a4⟩ := h.call hk hb
  exact ⟨by rw [hc]; exact a1, a2, a3, h.sz, h.n36, h.g3, h.g6, h.ge, hr, hb, a4⟩
end Go.Proofs.Ytcllcjflgeiehaa.PCastPlays
