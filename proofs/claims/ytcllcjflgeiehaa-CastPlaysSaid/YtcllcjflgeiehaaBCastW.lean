/- Proved: words for the walk of the law CastPlays: the two members side by side. -/
import Derived.Test.YtcllcjflgeiehaaBCastV
namespace Go.Proofs.Ytcllcjflgeiehaa.PCastPlays
open Go.RowKit Go.Proofs.YtcllcjflgeiehaaW.PrintWords Go.Proofs.YtcllcjflgeiehaaW.PrintLast Go.Proofs.YtcllcjflgeiehaaW.PrintMore
set_option linter.unusedVariables false
set_option linter.unusedSimpArgs false
/-- The member and the reference's member, side by side. -/
structure LS (w1 W : World) (g z : Nat) (id : Int) (its : List S82) (he now : Int) (r : Nat) (c : RC) (v1 v2 v3 v4 v5 v6 : Value) : Prop where
  mem : Mem w1.heap.size W g id its (r : Int) he now
  box : W.heap[z]? = some (.cells (cb c v1 v2 v3 v4 v5 v6) 54 (0, 0))
  gez : w1.heap.size ≤ z
  rows : Rws w1.heap.size W v1 v2 v3 v4 v5 v6 c
  below : Below w1.heap.size w1 W
section
variable {w1 W W' W2 : World} {g z : Nat} {id : Int} {its its' : List S82} {he now he' now' : Int} {r r' : Nat} {c c' : RC} {v1 v2 v3 v4 v5 v6 u1 u2 u3 u4 u5 u6 : Value}
theorem LS.on (h : LS w1 W g z id its he now r c v1 v2 v3 v4 v5 v6) (hb : Below W.heap.size W W') : LS w1 W' g z id its he now r c v1 v2 v3 v4 v5 v6 :=
  ⟨h.mem.below hb, blk_below h.box hb, h.gez, h.rows.below hb, h.below.trans (hb.mono h.below.size)⟩
theorem Mem.step {B : Nat} (h : Mem B W g id its (r : Int) he now) (hk : ∀ (k t : Nat) (cs : Array Value), W.heap[k]? = some (Obj.cells cs t (0, 0)) → (t = 78 ∨ t = 82) → W'.heap[k]? = W.heap[k]?) : Mem B W' g id its (r : Int) he now := by
  obtain ⟨v, h1, h2, h3⟩ := h
  refine ⟨v, (hk _ _ _ h1 (by decide)).trans h1, h2, Kd.R_mono (Kd.R_move (Kd.R_bound (Kd.R_tight rfl h3)) (fun k hq => ?_)) (fun _ _ => trivial)⟩
  obtain ⟨_, h4⟩ := mrow_typed h3 k hq.1.symm
  exact hk k _ _ h4 (by decide)
/-- A call of the reference leaves the member and the box. -/
theorem LS.ccall (h : LS w1 W g z id its he now r c v1 v2 v3 v4 v5 v6) (hk : KeepC W W') : Mem w1.heap.size W' g id its (r : Int) he now ∧ W'.heap[z]? = some (.cells (cb c v1 v2 v3 v4 v5 v6) 54 (0, 0)) :=
  ⟨h.mem.step (fun k t cs hc ht => (hk.2 k t cs hc (by omega) (by omega) (by omega)).trans hc.symm), hk.2 _ _ _ h.box (by decide) (by decide) (by decide)⟩
/-- The reference's state is stored. -/
theorem LS.store (h : LS w1 W g z id its he now r c v1 v2 v3 v4 v5 v6) (hk : KeepC W W') (hb : Below w1.heap.size w1 W') (hr : Rws w1.heap.size W' u1 u2 u3 u4 u5 u6 c') (hp : Put54 W' W2 z (cb c' u1 u2 u3 u4 u5 u6)) : LS w1 W2 g z id its he now r c' u1 u2 u3 u4 u5 u6 := by
  obtain ⟨a1, a2⟩ := h.ccall hk
  refine ⟨a1.step (fun k t cs hc ht => hp.far k (fun e => ?_)), hp.blk, h.gez, hp.rows a2 hr, hp.below hb h.gez⟩
  subst e
  have := typed_ne a2 hc
  omega
/-- A call of the member. -/
theorem LS.mcall (h : LS w1 W g z id its he now r c v1 v2 v3 v4 v5 v6) (hm : Mem w1.heap.size W' g id its' (r' : Int) he' now') (hb : Below w1.heap.size w1 W') (hk : KeepM W W') : LS w1 W' g z id its' he' now' r' c v1 v2 v3 v4 v5 v6 :=
  ⟨hm, hk.2 _ _ _ h.box (by decide) (by decide), h.gez, h.rows.step (fun k t cs hc ht => (hk.2 k t cs hc (by omega) (by omega)).trans hc.symm), hb⟩
theorem LS.rd_ (h : LS w1 W g z id its he now r c v1 v2 v3 v4 v5 v6) (x : Int) : LS w1 (W.setCell ⟨z, 9, none⟩ (.int .i64 x)) g z id its he now r { c with rd := x } v1 v2 v3 v4 v5 v6 := by
  have hp : Put54 W (W.setCell ⟨z, 9, none⟩ (.int .i64 x)) z (cb { c with rd := x } v1 v2 v3 v4 v5 v6) :=
    ⟨(blk_set h.box 9 _).trans rfl, fun k hk => Below.heap_setCell W ⟨z, 9, none⟩ _ k hk, by simp, rfl, rfl, rfl⟩
  exact h.store (KeepC.refl W) h.below ⟨h.rows.r1, h.rows.r2, h.rows.r3, h.rows.r4, h.rows.r5, h.rows.r6, h.rows.d12, h.rows.d13, h.rows.d23, h.rows.d56⟩ hp
end
theorem rws_nil (B : Nat) (W : World) (id he now rd : Int) : Rws B W (.slice none 0 0) (.slice none 0 0) (.slice none 0 0) (.slice none 0 0) (.slice none 0 0) (.slice none 0 0) (RefOf id [] [] he now rd) :=
  ⟨Kd.R_nil _ _ _ _ _, Kd.R_nil _ _ _ _ _, Kd.R_nil _ _ _ _ _, Kd.R_nil _ _ _ _ _, Kd.R_nil _ _ _ _ _, Kd.R_nil _ _ _ _ _, fun k h => by simp [Value.ownBlock] at h, fun k h => by simp [Value.ownBlock] at h, fun k h => by simp [Value.ownBlock] at h, fun k h => by simp [Value.ownBlock] at h⟩
theorem mSay_len (id : Int) (its : List S82) (s : ByteArray) : its.length ≤ (mSay id its s).1.length := by
  unfold mSay
  split
  · exact Nat.le_refl _
  · split
    · exact Nat.le_refl _
    · split
      · exact Nat.le_refl _
      · simp
theorem mAsk_len (id : Int) (its : List S82) (no : Nat) (t : Int) : its.length ≤ (mAsk id its no t).length := by
  have h := mKnows_len its (no + 1) t
  unfold mAsk
  split
  · rw [List.length_set]; omega
  · split
    · rw [List.length_set]; omega
    · omega
theorem mIn_len (id : Int) (its : List S82) (now k f n : Int) (s : ByteArray) (t : Int) : its.length ≤ (mIn id its now k f n s t).1.length := by
  unfold mIn
  split
  · exact Nat.le_refl _
  · split
    · exact Nat.le_refl _
    · split
      · exact Nat.le_refl _
      · split
        · exact Nat.le_refl _
        · simp only
          split
          · exact Nat.le_refl _
          · split
            · rw [mKnows_len]; omega
            · split
              · unfold mData; rw [List.length_set, mKnows_len]; omega
              · exact mAsk_len _ _ _ _
theorem mOut_len (id : Int) (its : List S82) (he now t : Int) : (mOut id its he now t).its.length = its.length ∧ (mOut id its he now t).out.length ≤ its.length + 1 := by
  have h := oRun_len id t its its.length
  unfold mOut
  split
  · exact ⟨rfl, by simp⟩
  · split
    · exact ⟨rfl, by simp⟩
    · split
      · exact ⟨h.1, by simp; omega⟩
      · exact ⟨h.1, by simp only; omega⟩
theorem nrow_put {B : Nat} {W W' : World} {z : Nat} {bs cs : Array Value} {v : Value} {out : List S56} (hp : Put54 W W' z bs) (hz : W.heap[z]? = some (Obj.cells cs 54 (0, 0))) (h : NRow B W v out) : NRow B W' v out :=
  Kd.R_mono (Kd.R_step (Kd.R_tight rfl h) (fun k ho _ => hp.far k (fun e => by
    subst e
    obtain ⟨_, h2⟩ := Kd.R_typed h k ho.symm
    exact absurd (typed_ne hz h2) (by decide)))) (fun _ _ => trivial)
theorem nrow_keep {B : Nat} {W W' : World} {v : Value} {out : List S56} (hk : KeepM W W') (h : NRow B W v out) : NRow B W' v out :=
  Kd.R_mono (Kd.R_step (Kd.R_tight rfl h) (fun k ho _ => by
    obtain ⟨_, h2⟩ := Kd.R_typed h k ho.symm
    exact (hk.2 k _ _ h2 (by decide) (by decide)).trans h2.symm)) (fun _ _ => trivial)
def CmpRel (w1 : World) (g z : Nat) (id : Int) (its : List S82) (he now : Int) (r : Nat) (c : RC) (v1 v2 v3 v4 v5 v6 : Value) (Aq Av : Option Addr) (outl : List S56) (n : Nat) (i : Value) (wl : World) : Prop := ∃ q : Nat, i = .int .i64 (q : Int) ∧ q + n = outl.length ∧ LS w1 wl g z id its he now r c v1 v2 v3 v4 v5 v6 ∧ Kd.C k56 wl Aq outl.length outl ∧ Kd.C k56 wl Av outl.length outl
/-- Both agree. -/
def Agree (w1 W : World) (g z : Nat) (id : Int) : Prop := ∃ (its : List S82) (rp : List Int) (he now : Int) (r : Nat) (v1 v2 v3 v4 v5 v6 : Value), LS w1 W g z id its he now r (RefOf id its rp he now (r : Int)) v1 v2 v3 v4 v5 v6 ∧ Sim its rp ∧ r ≤ its.length
def LRel (w1 : World) (g z : Nat) (id : Int) (n : Nat) (i : Value) (wr : World) : Prop := ∃ k : Nat, i = .int .i64 (k : Int) ∧ k + n = 30 ∧ Agree w1 wr g z id
def AfterSwitch (w1 : World) (g z : Nat) (id : Int) (v10 v15 : Value) (wx : World) : Prop := ∃ er : Int, v10 = .int .i64 er ∧ v15 = .int .i64 er ∧ Agree w1 wx g z id
end Go.Proofs.Ytcllcjflgeiehaa.PCastPlays
