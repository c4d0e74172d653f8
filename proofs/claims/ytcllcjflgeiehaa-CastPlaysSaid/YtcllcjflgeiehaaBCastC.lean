/- Proved: the reference's member of a broadcast stream as plain data, and what Copied, grow, Say, Out and Got of it do to that data. -/
import Derived.Test.YtcllcjflgeiehaaBCastX3
import Derived.Test.YtcllcjflgeiehaaBCastX6
import Derived.Test.YtcllcjflgeiehaaBW
namespace Go.Proofs.Ytcllcjflgeiehaa.PCastPlays
open Go.RowKit Go.Proofs.YtcllcjflgeiehaaW.PrintWords Go.Proofs.YtcllcjflgeiehaaW.PrintLast Go.Proofs.YtcllcjflgeiehaaW.PrintMore
set_option linter.unusedVariables false
set_option linter.unusedSimpArgs false
structure RC where
  id : Int
  th : List Bool
  fr : List Bool
  wt : List Bool
  bd : List ByteArray
  ak : List Int
  rp : List Int
  he : Int
  now : Int
  rd : Int
/-- Its rows lie apart. -/
structure Rws (B : Nat) (W : World) (v1 v2 v3 v4 v5 v6 : Value) (c : RC) : Prop where
  r1 : Kd.R Kd.bool 4 W B (fun k_ => some k_ = v1.ownBlock) v1 c.th
  r2 : Kd.R Kd.bool 4 W B (fun k_ => some k_ = v2.ownBlock) v2 c.fr
  r3 : Kd.R Kd.bool 4 W B (fun k_ => some k_ = v3.ownBlock) v3 c.wt
  r4 : Kd.R Kd.string 9 W B (fun k_ => some k_ = v4.ownBlock) v4 c.bd
  r5 : Kd.R (Kd.int .i64) 3 W B (fun k_ => some k_ = v5.ownBlock) v5 c.ak
  r6 : Kd.R (Kd.int .i64) 3 W B (fun k_ => some k_ = v6.ownBlock) v6 c.rp
  d12 : ∀ k_, some k_ = v1.ownBlock → ¬ some k_ = v2.ownBlock
  d13 : ∀ k_, some k_ = v1.ownBlock → ¬ some k_ = v3.ownBlock
  d23 : ∀ k_, some k_ = v2.ownBlock → ¬ some k_ = v3.ownBlock
  d56 : ∀ k_, some k_ = v5.ownBlock → ¬ some k_ = v6.ownBlock
abbrev cv (c : RC) (v1 v2 v3 v4 v5 v6 : Value) : Value := .agg #[.int .i64 c.id, v1, v2, v3, v4, v5, v6, .int .i64 c.he, .int .i64 c.now, .int .i64 c.rd]
theorem rws_mk {B : Nat} {W : World} {v1 v2 v3 v4 v5 v6 : Value} {c : RC} {o1 o2 o3 o4 o5 o6 : Nat → Prop} (h1 : Kd.R Kd.bool 4 W B o1 v1 c.th) (e12 : ∀ k, o1 k → some k ≠ v2.ownBlock) (e13 : ∀ k, o1 k → some k ≠ v3.ownBlock) (h2 : Kd.R Kd.bool 4 W B o2 v2 c.fr) (e23 : ∀ k, o2 k → some k ≠ v3.ownBlock) (h3 : Kd.R Kd.bool 4 W B o3 v3 c.wt)
    (h4 : Kd.R Kd.string 9 W B o4 v4 c.bd) (h5 : Kd.R (Kd.int .i64) 3 W B o5 v5 c.ak) (e56 : ∀ k, o5 k → some k ≠ v6.ownBlock) (h6 : Kd.R (Kd.int .i64) 3 W B o6 v6 c.rp) : Rws B W v1 v2 v3 v4 v5 v6 c :=
  ⟨Kd.R_tight rfl h1, Kd.R_tight rfl h2, Kd.R_tight rfl h3, Kd.R_tight rfl h4, Kd.R_tight rfl h5, Kd.R_tight rfl h6, fun k hk => e12 k (h1.1 k hk.symm), fun k hk => e13 k (h1.1 k hk.symm), fun k hk => e23 k (h2.1 k hk.symm), fun k hk => e56 k (h5.1 k hk.symm)⟩
theorem Rws.below {B : Nat} {W W' : World} {v1 v2 v3 v4 v5 v6 : Value} {c : RC} (h : Rws B W v1 v2 v3 v4 v5 v6 c) (hb : Below W.heap.size W W') : Rws B W' v1 v2 v3 v4 v5 v6 c :=
  ⟨Kd.R_below h.r1 hb, Kd.R_below h.r2 hb, Kd.R_below h.r3 hb, Kd.R_below h.r4 hb, Kd.R_below h.r5 hb, Kd.R_below h.r6 hb, h.d12, h.d13, h.d23, h.d56⟩
theorem Rws.lower {B B' : Nat} {W : World} {v1 v2 v3 v4 v5 v6 : Value} {c : RC} (h : Rws B W v1 v2 v3 v4 v5 v6 c) (hb : B' ≤ B) : Rws B' W v1 v2 v3 v4 v5 v6 c :=
  ⟨Kd.R_lower h.r1 hb, Kd.R_lower h.r2 hb, Kd.R_lower h.r3 hb, Kd.R_lower h.r4 hb, Kd.R_lower h.r5 hb, Kd.R_lower h.r6 hb, h.d12, h.d13, h.d23, h.d56⟩
/-- Blocks of types other than the rows' stay. -/
def KeepC (w w' : World) : Prop := w.heap.size ≤ w'.heap.size ∧ ∀ (k t : Nat) (cs : Array Value), w.heap[k]? = some (Obj.cells cs t (0, 0)) → t ≠ 3 → t ≠ 4 → t ≠ 9 → w'.heap[k]? = some (Obj.cells cs t (0, 0))
theorem KeepC.refl (w : World) : KeepC w w := ⟨Nat.le_refl _, fun _ _ _ h _ _ _ => h⟩
theorem KeepC.trans {a b c : World} (h : KeepC a b) (k : KeepC b c) : KeepC a c := ⟨Nat.le_trans h.1 k.1, fun i t cs hi h1 h2 h3 => k.2 i t cs (h.2 i t cs hi h1 h2 h3) h1 h2 h3⟩
theorem KeepC.below {w w1 : World} (h : Below w.heap.size w w1) : KeepC w w1 := ⟨h.size, fun i t cs hi _ _ _ => (h.block i (blk_lt hi)).trans hi⟩
theorem typed_ne {W : World} {k t q : Nat} {cs cs2 : Array Value} (h : W.heap[k]? = some (Obj.cells cs t (0, 0))) (h2 : W.heap[k]? = some (Obj.cells cs2 q (0, 0))) : t = q := by
  rw [h] at h2
  injection h2 with h2
  injection h2 with _ h2
def own6 (v1 v2 v3 v4 v5 v6 : Value) (k_ : Nat) : Prop := some k_ = v1.ownBlock ∨ some k_ = v2.ownBlock ∨ some k_ = v3.ownBlock ∨ some k_ = v4.ownBlock ∨ some k_ = v5.ownBlock ∨ some k_ = v6.ownBlock
theorem Rws.keep {B : Nat} {W W' : World} {v1 v2 v3 v4 v5 v6 : Value} {c : RC} (h : Rws B W v1 v2 v3 v4 v5 v6 c) (hk : Kept W W' (own6 v1 v2 v3 v4 v5 v6)) : KeepC W W' := by
  refine ⟨hk.1, fun k t cs hc n3 n4 n9 => (hk.2 k (blk_lt hc) (fun hs => ?_)).trans hc⟩
  rcases hs with e | e | e | e | e | e
  · obtain ⟨_, h2⟩ := Kd.R_typed h.r1 k e.symm; exact n4 (typed_ne hc h2)
  · obtain ⟨_, h2⟩ := Kd.R_typed h.r2 k e.symm; exact n4 (typed_ne hc h2)
  · obtain ⟨_, h2⟩ := Kd.R_typed h.r3 k e.symm; exact n4 (typed_ne hc h2)
  · obtain ⟨_, h2⟩ := Kd.R_typed h.r4 k e.symm; exact n9 (typed_ne hc h2)
  · obtain ⟨_, h2⟩ := Kd.R_typed h.r5 k e.symm; exact n3 (typed_ne hc h2)
  · obtain ⟨_, h2⟩ := Kd.R_typed h.r6 k e.symm; exact n3 (typed_ne hc h2)
/-- All lists have this length. -/
structure RLen (c : RC) (n : Nat) : Prop where
  th : c.th.length = n
  fr : c.fr.length = n
  wt : c.wt.length = n
  bd : c.bd.length = n
  ak : c.ak.length = n
  rp : c.rp.length = n
theorem copied_f (c : RC) (n : Nat) (h : RLen c n) (hn : n ≤ 1000) : patchbayref3_Cast_Copied.f c.id c.th c.fr c.wt c.bd c.ak c.rp c.he c.now c.rd = some (c.id, c.th, c.fr, c.wt, c.bd, c.ak, c.rp, c.he, c.now, c.rd) := by
  have h1 := h.th
  have h2 := h.fr
  have h3 := h.wt
  have h4 := h.bd
  have h5 := h.ak
  have h6 := h.rp
  unfold patchbayref3_Cast_Copied.f
  simp only [Option.bind_some, List.length_nil, List.nil_append, Nat.zero_add]
  rw [if_pos (by omega), if_pos (by omega), if_pos (by omega), if_pos (by omega), if_pos (by omega), if_pos (by omega)]
def rGrow (c : RC) (m : Nat) (t : Int) : RC :=
  { c with th := c.th ++ List.replicate (m - c.th.length) false, fr := c.fr ++ List.replicate (m - c.th.length) false, wt := c.wt ++ List.replicate (m - c.th.length) false, bd := c.bd ++ List.replicate (m - c.th.length) ⟨#[]⟩, ak := c.ak ++ List.replicate (m - c.th.length) t, rp := c.rp ++ List.replicate (m - c.th.length) 0 }
theorem rep_snoc {α : Type} (l : List α) (x : α) (d : Nat) : (l ++ [x]) ++ List.replicate d x = l ++ List.replicate (d + 1) x := by rw [List.append_assoc, List.replicate_succ]; rfl
theorem grow_l (m : Nat) (t id he now rd : Int) : ∀ (d k : Nat) (th fr wt : List Bool) (bd : List ByteArray) (ak rp : List Int), m - th.length = d → d < k → th.length ≤ 1000 → fr.length = th.length → wt.length = th.length → bd.length = th.length → ak.length = th.length → rp.length = th.length → m ≤ 1000 →
    patchbayref3_Cast_grow.l0 k (m : Int) t id th fr wt bd ak rp he now rd = some (id, th ++ List.replicate d false, fr ++ List.replicate d false, wt ++ List.replicate d false, bd ++ List.replicate d ⟨#[]⟩, ak ++ List.replicate d t, rp ++ List.replicate d 0, he, now, rd)
  | 0, k, th, fr, wt, bd, ak, rp, hd, hk, h1, h2, h3, h4, h5, h6, hm => by
    obtain ⟨k, rfl⟩ : ∃ q, k = q + 1 := ⟨k - 1, by omega⟩
    unfold patchbayref3_Cast_grow.l0
    rw [if_neg (by omega)]
    simp
  | d + 1, k, th, fr, wt, bd, ak, rp, hd, hk, h1, h2, h3, h4, h5, h6, hm => by
    obtain ⟨k, rfl⟩ : ∃ q, k = q + 1 := ⟨k - 1, by omega⟩
    unfold patchbayref3_Cast_grow.l0
    rw [if_pos (by omega), if_pos (by omega), if_pos (by omega), if_pos (by omega), if_pos (by omega), if_pos (by omega), if_pos (by omega)]
    rw [grow_l m t id he now rd d k _ _ _ _ _ _ (by simp; omega) (by omega) (by simp; omega) (by simp; omega) (by simp; omega) (by simp; omega) (by simp; omega) (by simp; omega) hm]
    simp only [rep_snoc]
theorem grow_f (c : RC) (n m : Nat) (t mi : Int) (hmi : mi = (m : Int)) (h : RLen c n) (hn : n ≤ 1000) (hm : m ≤ 1000) : patchbayref3_Cast_grow.f 2000 c.id c.th c.fr c.wt c.bd c.ak c.rp c.he c.now c.rd mi t = some ((rGrow c m t).id, (rGrow c m t).th, (rGrow c m t).fr, (rGrow c m t).wt, (rGrow c m t).bd, (rGrow c m t).ak, (rGrow c m t).rp, (rGrow c m t).he, (rGrow c m t).now, (rGrow c m t).rd) := by
  subst hmi
  unfold patchbayref3_Cast_grow.f
  have h1 := h.th
  exact grow_l m t c.id c.he c.now c.rd (m - c.th.length) 2000 _ _ _ _ _ _ rfl (by omega) (by omega) (by rw [h.fr, h1]) (by rw [h.wt, h1]) (by rw [h.bd, h1]) (by rw [h.ak, h1]) (by rw [h.rp, h1]) hm
theorem rgrow_len (c : RC) (n m : Nat) (t : Int) (h : RLen c n) : RLen (rGrow c m t) (max n m) := by
  have h1 := h.th
  have h2 := h.fr
  have h3 := h.wt
  have h4 := h.bd
  have h5 := h.ak
  have h6 := h.rp
  unfold rGrow
  exact ⟨by simp; omega, by simp; omega, by simp; omega, by simp; omega, by simp; omega, by simp; omega⟩
theorem copied_calls {B n : Nat} {w : World} {v1 v2 v3 v4 v5 v6 : Value} {c : RC} (h : Rws B w v1 v2 v3 v4 v5 v6 c) (hl : RLen c n) (hn : n ≤ 1000) :
    Calls Try.prog 37 #[cv c v1 v2 v3 v4 v5 v6] w fun e w' => ∃ u1 u2 u3 u4 u5 u6, e = .returned (cv c u1 u2 u3 u4 u5 u6) ∧ Rws w.heap.size w' u1 u2 u3 u4 u5 u6 c ∧ Below w.heap.size w w' := by
  obtain ⟨A1, c1, rfl, hc1, hC1⟩ := Kd.R_reads h.r1
  obtain ⟨A2, c2, rfl, hc2, hC2⟩ := Kd.R_reads h.r2
  obtain ⟨A3, c3, rfl, hc3, hC3⟩ := Kd.R_reads h.r3
  obtain ⟨A4, c4, rfl, hc4, hC4⟩ := Kd.R_reads h.r4
  obtain ⟨A5, c5, rfl, hc5, hC5⟩ := Kd.R_reads h.r5
  obtain ⟨A6, c6, rfl, hc6, hC6⟩ := Kd.R_reads h.r6
  refine (patchbayref3_Cast_Copied.calls c.id A1 c1 c.th A2 c2 c.fr A3 c3 c.wt A4 c4 c.bd A5 c5 c.ak A6 c6 c.rp c.he c.now c.rd _ _ _ _ _ _ _ _ _ _ w hC1 hc1 hC2 hc2 hC3 hc3 hC4 hc4 hC5 hc5 hC6 hc6 (copied_f c n hl hn)).mono ?_
  rintro e w' ⟨u1, u2, u3, u4, u5, u6, rfl, q1, q2, q3, q4, q5, q6, hb⟩
  exact ⟨u1, u2, u3, u4, u5, u6, rfl, rws_mk q1 (fun k hk => hk.1) (fun k hk => hk.2) q2 (fun k hk => hk.2) q3 q4 q5 (fun k hk => hk) q6, hb⟩
theorem grow_calls {n m : Nat} {w0 w : World} {v1 v2 v3 v4 v5 v6 : Value} {c : RC} {t mi : Int} (hmi : mi = (m : Int)) (h : Rws w0.heap.size w v1 v2 v3 v4 v5 v6 c) (hb : Below w0.heap.size w0 w) (hl : RLen c n) (hn : n ≤ 1000) (hm : m ≤ 1000) :
    Calls Try.prog 38 #[cv c v1 v2 v3 v4 v5 v6, .int .i64 mi, .int .i64 t] w fun e w' => ∃ u1 u2 u3 u4 u5 u6, e = .returned (cv (rGrow c m t) u1 u2 u3 u4 u5 u6) ∧ Rws w0.heap.size w' u1 u2 u3 u4 u5 u6 (rGrow c m t) ∧ Below w0.heap.size w0 w' ∧ KeepC w w' := by
  refine (patchbayref3_Cast_grow.calls 2000 c.id _ v1 c.th _ v2 c.fr _ v3 c.wt _ v4 c.bd _ v5 c.ak _ v6 c.rp c.he c.now c.rd mi t _ _ _ _ _ _ _ _ _ _ w0 w hb h.r1 h.d12 h.d13 h.r2 (fun k a b => h.d12 k b a) h.d23 h.r3 (fun k a b => h.d13 k b a) (fun k a b => h.d23 k b a) h.r4 h.r5 h.d56 h.r6 (fun k a b => h.d56 k b a) (grow_f c n m t mi hmi hl hn hm)).mono ?_
  rintro e w' ⟨u1, u2, u3, u4, u5, u6, rfl, q1, q2, q3, q4, q5, q6, hb2, hk⟩
  exact ⟨u1, u2, u3, u4, u5, u6, rfl, rws_mk q1 (fun k hk => hk.2.1) (fun k hk => hk.2.2) q2 (fun k hk => hk.2.2) q3 q4 q5 (fun k hk => hk.2) q6, hb2, h.keep hk⟩
end Go.Proofs.Ytcllcjflgeiehaa.PCastPlays
