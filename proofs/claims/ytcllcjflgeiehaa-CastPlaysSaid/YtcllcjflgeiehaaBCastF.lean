/- Proved: what a store into a row of the reference's member does. -/
import Derived.Test.YtcllcjflgeiehaaBCastE
namespace Go.Proofs.Ytcllcjflgeiehaa.PCastPlays
open Go.RowKit Go.Proofs.YtcllcjflgeiehaaW.PrintWords Go.Proofs.YtcllcjflgeiehaaW.PrintLast Go.Proofs.YtcllcjflgeiehaaW.PrintMore
set_option linter.unusedVariables false
set_option linter.unusedSimpArgs false
theorem Rws.put1 {B : Nat} {W : World} {v2 v3 v4 v5 v6 : Value} {c : RC} {g cap i : Nat} (h : Rws B W (.slice (some ⟨g, 0, none⟩) c.th.length cap) v2 v3 v4 v5 v6 c) (x : Bool) :
    Rws B (W.setCell ⟨g, i, none⟩ (.bool x)) (.slice (some ⟨g, 0, none⟩) c.th.length cap) v2 v3 v4 v5 v6 { c with th := c.th.set i x } ∧ W.grownBy (W.setCell ⟨g, i, none⟩ (.bool x)) (some g) ∧ B ≤ g ∧ ∃ cs, W.heap[g]? = some (Obj.cells cs 4 (0, 0)) := by
  obtain ⟨hp, hg⟩ := Kd.R_putg h.r1 (i : Int) x
  obtain ⟨cs, hcs⟩ := Kd.R_typed h.r1 g rfl
  have far : ∀ k, k ≠ g → (W.setCell ⟨g, i, none⟩ (.bool x)).heap[k]? = W.heap[k]? := fun k hk => Below.heap_setCell W ⟨g, i, none⟩ _ k hk
  exact ⟨⟨hp, Kd.R_step h.r2 (fun k ho _ => far k (fun e => by rw [e] at ho; exact absurd ho (h.d12 g rfl))), Kd.R_step h.r3 (fun k ho _ => far k (fun e => by rw [e] at ho; exact absurd ho (h.d13 g rfl))), Kd.R_step h.r4 (fun k ho _ => far k (fun e => by subst e; obtain ⟨_, h2⟩ := Kd.R_typed h.r4 k ho.symm; exact absurd (typed_ne hcs h2) (by decide))), Kd.R_step h.r5 (fun k ho _ => far k (fun e => by subst e; obtain ⟨_, h2⟩ := Kd.R_typed h.r5 k ho.symm; exact absurd (typed_ne hcs h2) (by decide))), Kd.R_step h.r6 (fun k ho _ => far k (fun e => by subst e; obtain ⟨_, h2⟩ := Kd.R_typed h.r6 k ho.symm; exact absurd (typed_ne hcs h2) (by decide))), h.d12, h.d13, h.d23, h.d56⟩, hg, Kd.R_base h.r1 g rfl, cs, hcs⟩
theorem CI.put_th {w0 w W : World} {z3 z4 z6 g cap i : Nat} {c : RC} {v2 v3 v4 v5 v6 : Value} {bs : Array Value} {k f n : Int} {s : ByteArray} (h : CI w0 w W z3 z4 z6 c (.slice (some ⟨g, 0, none⟩) c.th.length cap) v2 v3 v4 v5 v6 bs k f n s) (x : Bool) : CI w0 w (W.setCell ⟨g, i, none⟩ (.bool x)) z3 z4 z6 { c with th := c.th.set i x } (.slice (some ⟨g, 0, none⟩) c.th.length cap) v2 v3 v4 v5 v6 bs k f n s := by
  obtain ⟨a1, a2, a3, cs, a4⟩ := h.rows.put1 (i := i) x
  exact h.rowput a4 (by decide) a3 a2 (h.below.setCell (p := ⟨g, i, none⟩) a3 _) a1 rfl
theorem Rws.at1 {B : Nat} {W : World} {v1 v2 v3 v4 v5 v6 : Value} {c : RC} {i : Nat} (h : Rws B W v1 v2 v3 v4 v5 v6 c) (hi : i < c.th.length) : ∃ g cap, v1 = .slice (some ⟨g, 0, none⟩) c.th.length cap ∧ W.cell? ⟨g, i, none⟩ = some (.bool (rdOf false c.th (i : Int))) ∧ W.frozen? ⟨g, i, none⟩ = false := by
  obtain ⟨g, cap, e, _, _, cs, hcs⟩ := Kd.R_form h.r1 (by omega)
  subst e
  obtain ⟨ad, ha, hc⟩ := Kd.at_bool (Kd.R_reads' h.r1).2.2 (i : Int) (by omega) (by omega)
  injection ha with ha
  subst ha
  refine ⟨g, cap, rfl, ?_, blk_frozen hcs _⟩
  rw [Int.toNat_natCast] at hc
  rw [add_at, Nat.zero_add] at hc
  exact hc
theorem Rws.put3 {B : Nat} {W : World} {v1 v2 v4 v5 v6 : Value} {c : RC} {g cap i : Nat} (h : Rws B W v1 v2 (.slice (some ⟨g, 0, none⟩) c.wt.length cap) v4 v5 v6 c) (x : Bool) :
    Rws B (W.setCell ⟨g, i, none⟩ (.bool x)) v1 v2 (.slice (some ⟨g, 0, none⟩) c.wt.length cap) v4 v5 v6 { c with wt := c.wt.set i x } ∧ W.grownBy (W.setCell ⟨g, i, none⟩ (.bool x)) (some g) ∧ B ≤ g ∧ ∃ cs, W.heap[g]? = some (Obj.cells cs 4 (0, 0)) := by
  obtain ⟨hp, hg⟩ := Kd.R_putg h.r3 (i : Int) x
  obtain ⟨cs, hcs⟩ := Kd.R_typed h.r3 g rfl
  have far : ∀ k, k ≠ g → (W.setCell ⟨g, i, none⟩ (.bool x)).heap[k]? = W.heap[k]? := fun k hk => Below.heap_setCell W ⟨g, i, none⟩ _ k hk
  exact ⟨⟨Kd.R_step h.r1 (fun k ho _ => far k (fun e => by rw [e] at ho; exact absurd ho (fun q => h.d13 g q rfl))), Kd.R_step h.r2 (fun k ho _ => far k (fun e => by rw [e] at ho; exact absurd ho (fun q => h.d23 g q rfl))), hp, Kd.R_step h.r4 (fun k ho _ => far k (fun e => by subst e; obtain ⟨_, h2⟩ := Kd.R_typed h.r4 k ho.symm; exact absurd (typed_ne hcs h2) (by decide))), Kd.R_step h.r5 (fun k ho _ => far k (fun e => by subst e; obtain ⟨_, h2⟩ := Kd.R_typed h.r5 k ho.symm; exact absurd (typed_ne hcs h2) (by decide))), Kd.R_step h.r6 (fun k ho _ => far k (fun e => by subst e; obtain ⟨_, h2⟩ := Kd.R_typed h.r6 k ho.symm; exact absurd (typed_ne hcs h2) (by decide))), h.d12, h.d13, h.d23, h.d56⟩, hg, Kd.R_base h.r3 g rfl, cs, hcs⟩
theorem CI.put_wt {w0 w W : World} {z3 z4 z6 g cap i : Nat} {c : RC} {v1 v2 v4 v5 v6 : Value} {bs : Array Value} {k f n : Int} {s : ByteArray} (h : CI w0 w W z3 z4 z6 c v1 v2 (.slice (some ⟨g, 0, none⟩) c.wt.length cap) v4 v5 v6 bs k f n s) (x : Bool) : CI w0 w (W.setCell ⟨g, i, none⟩ (.bool x)) z3 z4 z6 { c with wt := c.wt.set i x } v1 v2 (.slice (some ⟨g, 0, none⟩) c.wt.length cap) v4 v5 v6 bs k f n s := by
  obtain ⟨a1, a2, a3, cs, a4⟩ := h.rows.put3 (i := i) x
  exact h.rowput a4 (by decide) a3 a2 (h.below.setCell (p := ⟨g, i, none⟩) a3 _) a1 rfl
theorem Rws.at3 {B : Nat} {W : World} {v1 v2 v3 v4 v5 v6 : Value} {c : RC} {i : Nat} (h : Rws B W v1 v2 v3 v4 v5 v6 c) (hi : i < c.wt.length) : ∃ g cap, v3 = .slice (some ⟨g, 0, none⟩) c.wt.length cap ∧ W.cell? ⟨g, i, none⟩ = some (.bool (rdOf false c.wt (i : Int))) ∧ W.frozen? ⟨g, i, none⟩ = false := by
  obtain ⟨g, cap, e, _, _, cs, hcs⟩ := Kd.R_form h.r3 (by omega)
  subst e
  obtain ⟨ad, ha, hc⟩ := Kd.at_bool (Kd.R_reads' h.r3).2.2 (i : Int) (by omega) (by omega)
  injection ha with ha
  subst ha
  refine ⟨g, cap, rfl, ?_, blk_frozen hcs _⟩
  rw [Int.toNat_natCast] at hc
  rw [add_at, Nat.zero_add] at hc
  exact hc
theorem Rws.put4 {B : Nat} {W : World} {v1 v2 v3 v5 v6 : Value} {c : RC} {g cap i : Nat} (h : Rws B W v1 v2 v3 (.slice (some ⟨g, 0, none⟩) c.bd.length cap) v5 v6 c) (x : ByteArray) :
    Rws B (W.setCell ⟨g, i, none⟩ (.string x)) v1 v2 v3 (.slice (some ⟨g, 0, none⟩) c.bd.length cap) v5 v6 { c with bd := c.bd.set i x } ∧ W.grownBy (W.setCell ⟨g, i, none⟩ (.string x)) (some g) ∧ B ≤ g ∧ ∃ cs, W.heap[g]? = some (Obj.cells cs 9 (0, 0)) := by
  obtain ⟨hp, hg⟩ := Kd.R_putg h.r4 (i : Int) x
  obtain ⟨cs, hcs⟩ := Kd.R_typed h.r4 g rfl
  have far : ∀ k, k ≠ g → (W.setCell ⟨g, i, none⟩ (.string x)).heap[k]? = W.heap[k]? := fun k hk => Below.heap_setCell W ⟨g, i, none⟩ _ k hk
  exact ⟨⟨Kd.R_step h.r1 (fun k ho _ => far k (fun e => by subst e; obtain ⟨_, h2⟩ := Kd.R_typed h.r1 k ho.symm; exact absurd (typed_ne hcs h2) (by decide))), Kd.R_step h.r2 (fun k ho _ => far k (fun e => by subst e; obtain ⟨_, h2⟩ := Kd.R_typed h.r2 k ho.symm; exact absurd (typed_ne hcs h2) (by decide))), Kd.R_step h.r3 (fun k ho _ => far k (fun e => by subst e; obtain ⟨_, h2⟩ := Kd.R_typed h.r3 k ho.symm; exact absurd (typed_ne hcs h2) (by decide))), hp, Kd.R_step h.r5 (fun k ho _ => far k (fun e => by subst e; obtain ⟨_, h2⟩ := Kd.R_typed h.r5 k ho.symm; exact absurd (typed_ne hcs h2) (by decide))), Kd.R_step h.r6 (fun k ho _ => far k (fun e => by subst e; obtain ⟨_, h2⟩ := Kd.R_typed h.r6 k ho.symm; exact absurd (typed_ne hcs h2) (by decide))), h.d12, h.d13, h.d23, h.d56⟩, hg, Kd.R_base h.r4 g rfl, cs, hcs⟩
theorem CI.put_bd {w0 w W : World} {z3 z4 z6 g cap i : Nat} {c : RC} {v1 v2 v3 v5 v6 : Value} {bs : Array Value} {k f n : Int} {s : ByteArray} (h : CI w0 w W z3 z4 z6 c v1 v2 v3 (.slice (some ⟨g, 0, none⟩) c.bd.length cap) v5 v6 bs k f n s) (x : ByteArray) : CI w0 w (W.setCell ⟨g, i, none⟩ (.string x)) z3 z4 z6 { c with bd := c.bd.set i x } v1 v2 v3 (.slice (some ⟨g, 0, none⟩) c.bd.length cap) v5 v6 bs k f n s := by
  obtain ⟨a1, a2, a3, cs, a4⟩ := h.rows.put4 (i := i) x
  exact h.rowput a4 (by decide) a3 a2 (h.below.setCell (p := ⟨g, i, none⟩) a3 _) a1 rfl
theorem Rws.at4 {B : Nat} {W : World} {v1 v2 v3 v4 v5 v6 : Value} {c : RC} {i : Nat} (h : Rws B W v1 v2 v3 v4 v5 v6 c) (hi : i < c.bd.length) : ∃ g cap, v4 = .slice (some ⟨g, 0, none⟩) c.bd.length cap ∧ W.cell? ⟨g, i, none⟩ = some (.string (rdOf ByteArray.empty c.bd (i : Int))) ∧ W.frozen? ⟨g, i, none⟩ = false := by
  obtain ⟨g, cap, e, _, _, cs, hcs⟩ := Kd.R_form h.r4 (by omega)
  subst e
  obtain ⟨ad, ha, hc⟩ := Kd.at_string (Kd.R_reads' h.r4).2.2 (i : Int) (by omega) (by omega)
  injection ha with ha
  subst ha
  refine ⟨g, cap, rfl, ?_, blk_frozen hcs _⟩
  rw [Int.toNat_natCast] at hc
  rw [add_at, Nat.zero_add] at hc
  exact hc
theorem Rws.put5 {B : Nat} {W : World} {v1 v2 v3 v4 v6 : Value} {c : RC} {g cap i : Nat} (h : Rws B W v1 v2 v3 v4 (.slice (some ⟨g, 0, none⟩) c.ak.length cap) v6 c) (x : Int) :
    Rws B (W.setCell ⟨g, i, none⟩ (.int .i64 x)) v1 v2 v3 v4 (.slice (some ⟨g, 0, none⟩) c.ak.length cap) v6 { c with ak := c.ak.set i x } ∧ W.grownBy (W.setCell ⟨g, i, none⟩ (.int .i64 x)) (some g) ∧ B ≤ g ∧ ∃ cs, W.heap[g]? = some (Obj.cells cs 3 (0, 0)) := by
  obtain ⟨hp, hg⟩ := Kd.R_putg h.r5 (i : Int) x
  obtain ⟨cs, hcs⟩ := Kd.R_typed h.r5 g rfl
  have far : ∀ k, k ≠ g → (W.setCell ⟨g, i, none⟩ (.int .i64 x)).heap[k]? = W.heap[k]? := fun k hk => Below.heap_setCell W ⟨g, i, none⟩ _ k hk
  exact ⟨⟨Kd.R_step h.r1 (fun k ho _ => far k (fun e => by subst e; obtain ⟨_, h2⟩ := Kd.R_typed h.r1 k ho.symm; exact absurd (typed_ne hcs h2) (by decide))), Kd.R_step h.r2 (fun k ho _ => far k (fun e => by subst e; obtain ⟨_, h2⟩ := Kd.R_typed h.r2 k ho.symm; exact absurd (typed_ne hcs h2) (by decide))), Kd.R_step h.r3 (fun k ho _ => far k (fun e => by subst e; obtain ⟨_, h2⟩ := Kd.R_typed h.r3 k ho.symm; exact absurd (typed_ne hcs h2) (by decide))), Kd.R_step h.r4 (fun k ho _ => far k (fun e => by subst e; obtain ⟨_, h2⟩ := Kd.R_typed h.r4 k ho.symm; exact absurd (typed_ne hcs h2) (by decide))), hp, Kd.R_step h.r6 (fun k ho _ => far k (fun e => by rw [e] at ho; exact absurd ho (h.d56 g rfl))), h.d12, h.d13, h.d23, h.d56⟩, hg, Kd.R_base h.r5 g rfl, cs, hcs⟩
theorem CI.put_ak {w0 w W : World} {z3 z4 z6 g cap i : Nat} {c : RC} {v1 v2 v3 v4 v6 : Value} {bs : Array Value} {k f n : Int} {s : ByteArray} (h : CI w0 w W z3 z4 z6 c v1 v2 v3 v4 (.slice (some ⟨g, 0, none⟩) c.ak.length cap) v6 bs k f n s) (x : Int) : CI w0 w (W.setCell ⟨g, i, none⟩ (.int .i64 x)) z3 z4 z6 { c with ak := c.ak.set i x } v1 v2 v3 v4 (.slice (some ⟨g, 0, none⟩) c.ak.length cap) v6 bs k f n s := by
  obtain ⟨a1, a2, a3, cs, a4⟩ := h.rows.put5 (i := i) x
  exact h.rowput a4 (by decide) a3 a2 (h.below.setCell (p := ⟨g, i, none⟩) a3 _) a1 rfl
theorem Rws.at5 {B : Nat} {W : World} {v1 v2 v3 v4 v5 v6 : Value} {c : RC} {i : Nat} (h : Rws B W v1 v2 v3 v4 v5 v6 c) (hi : i < c.ak.length) : ∃ g cap, v5 = .slice (some ⟨g, 0, none⟩) c.ak.length cap ∧ W.cell? ⟨g, i, none⟩ = some (.int .i64 (rd c.ak (i : Int))) ∧ W.frozen? ⟨g, i, none⟩ = false := by
  obtain ⟨g, cap, e, _, _, cs, hcs⟩ := Kd.R_form h.r5 (by omega)
  subst e
  obtain ⟨ad, ha, hc⟩ := Kd.at_int (Kd.R_reads' h.r5).2.2 (i : Int) (by omega) (by omega)
  injection ha with ha
  subst ha
  refine ⟨g, cap, rfl, ?_, blk_frozen hcs _⟩
  rw [Int.toNat_natCast] at hc
  rw [add_at, Nat.zero_add] at hc
  exact hc
theorem Rws.put6 {B : Nat} {W : World} {v1 v2 v3 v4 v5 : Value} {c : RC} {g cap i : Nat} (h : Rws B W v1 v2 v3 v4 v5 (.slice (some ⟨g, 0, none⟩) c.rp.length cap) c) (x : Int) :
    Rws B (W.setCell ⟨g, i, none⟩ (.int .i64 x)) v1 v2 v3 v4 v5 (.slice (some ⟨g, 0, none⟩) c.rp.length cap) { c with rp := c.rp.set i x } ∧ W.grownBy (W.setCell ⟨g, i, none⟩ (.int .i64 x)) (some g) ∧ B ≤ g ∧ ∃ cs, W.heap[g]? = some (Obj.cells cs 3 (0, 0)) := by
  obtain ⟨hp, hg⟩ := Kd.R_putg h.r6 (i : Int) x
  obtain ⟨cs, hcs⟩ := Kd.R_typed h.r6 g rfl
  have far : ∀ k, k ≠ g → (W.setCell ⟨g, i, none⟩ (.int .i64 x)).heap[k]? = W.heap[k]? := fun k hk => Below.heap_setCell W ⟨g, i, none⟩ _ k hk
  exact ⟨⟨Kd.R_step h.r1 (fun k ho _ => far k (fun e => by subst e; obtain ⟨_, h2⟩ := Kd.R_typed h.r1 k ho.symm; exact absurd (typed_ne hcs h2) (by decide))), Kd.R_step h.r2 (fun k ho _ => far k (fun e => by subst e; obtain ⟨_, h2⟩ := Kd.R_typed h.r2 k ho.symm; exact absurd (typed_ne hcs h2) (by decide))), Kd.R_step h.r3 (fun k ho _ => far k (fun e => by subst e; obtain ⟨_, h2⟩ := Kd.R_typed h.r3 k ho.symm; exact absurd (typed_ne hcs h2) (by decide))), Kd.R_step h.r4 (fun k ho _ => far k (fun e => by subst e; obtain ⟨_, h2⟩ := Kd.R_typed h.r4 k ho.symm; exact absurd (typed_ne hcs h2) (by decide))), Kd.R_step h.r5 (fun k ho _ => far k (fun e => by rw [e] at ho; exact absurd ho (fun q => h.d56 g q rfl))), hp, h.d12, h.d13, h.d23, h.d56⟩, hg, Kd.R_base h.r6 g rfl, cs, hcs⟩
theorem CI.put_rp {w0 w W : World} {z3 z4 z6 g cap i : Nat} {c : RC} {v1 v2 v3 v4 v5 : Value} {bs : Array Value} {k f n : Int} {s : ByteArray} (h : CI w0 w W z3 z4 z6 c v1 v2 v3 v4 v5 (.slice (some ⟨g, 0, none⟩) c.rp.length cap) bs k f n s) (x : Int) : CI w0 w (W.setCell ⟨g, i, none⟩ (.int .i64 x)) z3 z4 z6 { c with rp := c.rp.set i x } v1 v2 v3 v4 v5 (.slice (some ⟨g, 0, none⟩) c.rp.length cap) bs k f n s := by
  obtain ⟨a1, a2, a3, cs, a4⟩ := h.rows.put6 (i := i) x
  exact h.rowput a4 (by decide) a3 a2 (h.below.setCell (p := ⟨g, i, none⟩) a3 _) a1 rfl
theorem Rws.at6 {B : Nat} {W : World} {v1 v2 v3 v4 v5 v6 : Value} {c : RC} {i : Nat} (h : Rws B W v1 v2 v3 v4 v5 v6 c) (hi : i < c.rp.length) : ∃ g cap, v6 = .slice (some ⟨g, 0, none⟩) c.rp.length cap ∧ W.cell? ⟨g, i, none⟩ = some (.int .i64 (rd c.rp (i : Int))) ∧ W.frozen? ⟨g, i, none⟩ = false := by
  obtain ⟨g, cap, e, _, _, cs, hcs⟩ := Kd.R_form h.r6 (by omega)
  subst e
  obtain ⟨ad, ha, hc⟩ := Kd.at_int (Kd.R_reads' h.r6).2.2 (i : Int) (by omega) (by omega)
  injection ha with ha
  subst ha
  refine ⟨g, cap, rfl, ?_, blk_frozen hcs _⟩
  rw [Int.toNat_natCast] at hc
  rw [add_at, Nat.zero_add] at hc
  exact hc
theorem Rws.at1' {B : Nat} {W : World} {v2 v3 v4 v5 v6 : Value} {c : RC} {g m cap i : Nat} (h : Rws B W (.slice (some ⟨g, 0, none⟩) m cap) v2 v3 v4 v5 v6 c) (hi : i < c.th.length) : W.cell? ⟨g, i, none⟩ = some (.bool (rdOf false c.th (i : Int))) ∧ W.frozen? ⟨g, i, none⟩ = false := by
  obtain ⟨g2, cap2, e, a, b⟩ := h.at1 hi
  injection e with e
  injection e with e
  injection e with e
  subst e
  exact ⟨a, b⟩
theorem rlen_th {c : RC} {n : Nat} (h : RLen c n) (i : Nat) (x : Bool) : RLen { c with th := c.th.set i x } n := by
  have h2 := h.th
  exact ⟨by simpa using h2, h.fr, h.wt, h.bd, h.ak, h.rp⟩
theorem Rws.at3' {B : Nat} {W : World} {v1 v2 v4 v5 v6 : Value} {c : RC} {g m cap i : Nat} (h : Rws B W v1 v2 (.slice (some ⟨g, 0, none⟩) m cap) v4 v5 v6 c) (hi : i < c.wt.length) : W.cell? ⟨g, i, none⟩ = some (.bool (rdOf false c.wt (i : Int))) ∧ W.frozen? ⟨g, i, none⟩ = false := by
  obtain ⟨g2, cap2, e, a, b⟩ := h.at3 hi
  injection e with e
  injection e with e
  injection e with e
  subst e
  exact ⟨a, b⟩
theorem rlen_wt {c : RC} {n : Nat} (h : RLen c n) (i : Nat) (x : Bool) : RLen { c with wt := c.wt.set i x } n := by
  have h2 := h.wt
  exact ⟨h.th, h.fr, by simpa using h2, h.bd, h.ak, h.rp⟩
theorem Rws.at4' {B : Nat} {W : World} {v1 v2 v3 v5 v6 : Value} {c : RC} {g m cap i : Nat} (h : Rws B W v1 v2 v3 (.slice (some ⟨g, 0, none⟩) m cap) v5 v6 c) (hi : i < c.bd.length) : W.cell? ⟨g, i, none⟩ = some (.string (rdOf ByteArray.empty c.bd (i : Int))) ∧ W.frozen? ⟨g, i, none⟩ = false := by
  obtain ⟨g2, cap2, e, a, b⟩ := h.at4 hi
  injection e with e
  injection e with e
  injection e with e
  subst e
  exact ⟨a, b⟩
theorem rlen_bd {c : RC} {n : Nat} (h : RLen c n) (i : Nat) (x : ByteArray) : RLen { c with bd := c.bd.set i x } n := by
  have h2 := h.bd
  exact ⟨h.th, h.fr, h.wt, by simpa using h2, h.ak, h.rp⟩
theorem Rws.at5' {B : Nat} {W : World} {v1 v2 v3 v4 v6 : Value} {c : RC} {g m cap i : Nat} (h : Rws B W v1 v2 v3 v4 (.slice (some ⟨g, 0, none⟩) m cap) v6 c) (hi : i < c.ak.length) : W.cell? ⟨g, i, none⟩ = some (.int .i64 (rd c.ak (i : Int))) ∧ W.frozen? ⟨g, i, none⟩ = false := by
  obtain ⟨g2, cap2, e, a, b⟩ := h.at5 hi
  injection e with e
  injection e with e
  injection e with e
  subst e
  exact ⟨a, b⟩
theorem rlen_ak {c : RC} {n : Nat} (h : RLen c n) (i : Nat) (x : Int) : RLen { c with ak := c.ak.set i x } n := by
  have h2 := h.ak
  exact ⟨h.th, h.fr, h.wt, h.bd, by simpa using h2, h.rp⟩
theorem Rws.at6' {B : Nat} {W : World} {v1 v2 v3 v4 v5 : Value} {c : RC} {g m cap i : Nat} (h : Rws B W v1 v2 v3 v4 v5 (.slice (some ⟨g, 0, none⟩) m cap) c) (hi : i < c.rp.length) : W.cell? ⟨g, i, none⟩ = some (.int .i64 (rd c.rp (i : Int))) ∧ W.frozen? ⟨g, i, none⟩ = false := by
  obtain ⟨g2, cap2, e, a, b⟩ := h.at6 hi
  injection e with e
  injection e with e
  injection e with e
  subst e
  exact ⟨a, b⟩
theorem rlen_rp {c : RC} {n : Nat} (h : RLen c n) (i : Nat) (x : Int) : RLen { c with rp := c.rp.set i x } n := by
  have h2 := h.rp
  exact ⟨h.th, h.fr, h.wt, h.bd, h.ak, by simpa using h2⟩
end Go.Proofs.Ytcllcjflgeiehaa.PCastPlays
