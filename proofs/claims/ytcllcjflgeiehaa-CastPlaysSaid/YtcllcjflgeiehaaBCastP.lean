/- Proved: what Out of a member of a broadcast stream does. -/
import Derived.Test.YtcllcjflgeiehaaBCastN
namespace Go.Proofs.Ytcllcjflgeiehaa.PCastPlays
open Go.RowKit Go.Proofs.YtcllcjflgeiehaaW.PrintWords Go.Proofs.YtcllcjflgeiehaaW.PrintLast Go.Proofs.YtcllcjflgeiehaaW.PrintMore
set_option linter.unusedVariables false
set_option linter.unusedSimpArgs false
def sends (x : S82) (t : Int) : Prop := x.f4 = true ∨ (x.f0 = true ∧ 0 ≤ x.f3 ∧ x.f3 ≤ t)
instance (x : S82) (t : Int) : Decidable (sends x t) := by unfold sends; infer_instance
def asks (x : S82) (t : Int) : Prop := x.f0 = false ∧ x.f2 ≤ t
instance (x : S82) (t : Int) : Decidable (asks x t) := by unfold asks; infer_instance
/-- One message's round. -/
def oStep (id t : Int) (j : Nat) (st : List S56 × List S82) : List S56 × List S82 :=
  if sends (item st.2 j) t then (st.1 ++ [⟨1, id, j, (item st.2 j).f1⟩], st.2.set j { item st.2 j with f3 := -1, f4 := false })
  else if asks (item st.2 j) t then (st.1 ++ [⟨2, id, j, ⟨#[]⟩⟩], st.2.set j { item st.2 j with f2 := t + 20 })
  else st
def oRun (id t : Int) (its : List S82) : Nat → List S56 × List S82
  | 0 => ([], its)
  | j + 1 => oStep id t j (oRun id t its j)
theorem oStep_len (id t : Int) (j : Nat) (st : List S56 × List S82) : (oStep id t j st).2.length = st.2.length := by
  unfold oStep
  split
  · simp
  · split
    · simp
    · rfl
theorem oStep_out (id t : Int) (j : Nat) (st : List S56 × List S82) : (oStep id t j st).1.length ≤ st.1.length + 1 := by
  unfold oStep
  split
  · simp
  · split
    · simp
    · omega
theorem oRun_len (id t : Int) (its : List S82) : ∀ j, (oRun id t its j).2.length = its.length ∧ (oRun id t its j).1.length ≤ j
  | 0 => ⟨rfl, Nat.le_refl _⟩
  | j + 1 => by
    have h := oRun_len id t its j
    have h2 := oStep_out id t j (oRun id t its j)
    exact ⟨(oStep_len id t j _).trans h.1, by show (oStep id t j (oRun id t its j)).1.length ≤ j + 1; omega⟩
structure OutR where
  its : List S82
  he : Int
  now : Int
  out : List S56
  err : Int
def mOut (id : Int) (its : List S82) (he now t : Int) : OutR :=
  if t < 0 ∨ 1000000000 < t then ⟨its, he, now, [], 1⟩
  else if t < now then ⟨its, he, now, [], 13⟩
  else if id = 0 ∧ 0 < its.length ∧ he ≤ t then ⟨(oRun id t its its.length).2, t + 50, t, (oRun id t its its.length).1 ++ [⟨3, 0, its.length, ⟨#[]⟩⟩], 0⟩
  else ⟨(oRun id t its its.length).2, he, t, (oRun id t its its.length).1, 0⟩
def NRow (B : Nat) (W : World) (v : Value) (out : List S56) : Prop := Kd.R k56 56 W B (fun _ => True) v out
def OutPost (w0 w : World) (g : Nat) (id rd : Int) (r : OutR) (e : Ending) (w' : World) : Prop := ∃ v, e = .returned (.tuple #[v, .int .i64 r.err]) ∧ NRow w0.heap.size w' v r.out ∧ Mem w0.heap.size w' g id r.its rd r.he r.now ∧ Below w0.heap.size w0 w' ∧ KeepM w w'
/-- The state inside a round. -/
structure OS (w0 w W : World) (g : Nat) (id : Int) (v u : Value) (its : List S82) (out : List S56) (rd he now : Int) : Prop where
  box : MBox W g id v rd he now
  ge : w0.heap.size ≤ g
  row : MRow w0.heap.size W v its
  notes : NRow w0.heap.size W u out
  new : ∀ k, u.ownBlock = some k → w.heap.size ≤ k
  below : Below w0.heap.size w0 W
  keep : KeepM w W
theorem nrow_set {B : Nat} {W : World} {v u : Value} {out : List S56} {g o t : Nat} {cs : Array Value} (h : NRow B W v out) (hb : W.heap[g]? = some (Obj.cells cs t (0, 0))) (ht : t = 78 ∨ t = 82) : NRow B (W.setCell ⟨g, o, none⟩ u) v out :=
  Kd.R_set h hb (fun q hq => by rcases List.mem_cons.1 hq with rfl | hq; · rcases ht with rfl | rfl <;> decide
                                · cases hq) o u
theorem OS.on {w0 w W W' : World} {g : Nat} {id : Int} {v u : Value} {its : List S82} {out : List S56} {rd he now : Int} (h : OS w0 w W g id v u its out rd he now) (hb : Below W.heap.size W W') : OS w0 w W' g id v u its out rd he now :=
  ⟨blk_below h.box hb, h.ge, h.row.below hb, Kd.R_below h.notes hb, h.new, h.below.trans (hb.mono h.below.size), h.keep.trans (KeepM.below hb)⟩
theorem OS.cells {w0 w W : World} {g : Nat} {id : Int} {v u : Value} {its : List S82} {out : List S56} {rd he now : Int} (h : OS w0 w W g id v u its out rd he now) :
    W.cell? ⟨g, 0, none⟩ = some (.int .i64 id) ∧ W.cell? ⟨g, 1, none⟩ = some v ∧ W.cell? ⟨g, 3, none⟩ = some (.int .i64 he) ∧ W.frozen? ⟨g, 3, none⟩ = false :=
  ⟨(blk_cell h.box 0).trans rfl, (blk_cell h.box 1).trans rfl, (blk_cell h.box 3).trans rfl, blk_frozen h.box 3⟩
/-- A note is appended. -/
theorem OS.app {w0 w W w1 : World} {g : Nat} {id : Int} {v u u1 : Value} {its : List S82} {out out1 : List S56} {rd he now : Int} (h : OS w0 w W g id v u its out rd he now) (ho : NRow w0.heap.size w1 u1 out1) (hb : Below w0.heap.size w0 w1) (hg : W.grownBy w1 u.ownBlock) (hat : u1.ownBlock = u.ownBlock ∨ ∃ b, u1.ownBlock = some b ∧ W.heap.size ≤ b) : OS w0 w w1 g id v u1 its out1 rd he now := by
  refine ⟨blk_grown h.box hg (Kd.R_ne h.notes h.box (by decide)), h.ge, Kd.R_over' h.row (Kd.R_typed h.notes) (fun q hq => ?_) hg, ho, fun k hk => ?_, hb, ⟨Nat.le_trans h.keep.1 hg.size, fun k t cs hk h1 h2 => ?_⟩⟩
  · rcases List.mem_cons.1 hq with rfl | hq
    · decide
    · cases hq
  · rcases hat with e | ⟨b, e, hle⟩
    · exact h.new k (e.symm.trans hk)
    · rw [e] at hk
      injection hk with hk
      have := h.keep.1
      omega
  · have h3 := h.keep.2 k t cs hk h1 h2
    refine (hg.block k (blk_lt h3) (fun e => ?_)).trans h3
    have := h.new k e.symm
    have := blk_lt hk
    omega
/-- A message is written in part. -/
theorem OS.put {w0 w W : World} {g gb c i j : Nat} {id : Int} {u : Value} {its : List S82} {out : List S56} {rd he now : Int} {x : S82} {y : Value} (h : OS w0 w W g id (.slice (some ⟨gb, 0, none⟩) its.length c) u its out rd he now) (hi : i < its.length) (hj : j < 5)
    (hx : [Value.bool (item its i).f0, .string (item its i).f1, .int .i64 (item its i).f2, .int .i64 (item its i).f3, .bool (item its i).f4].set j y = [Value.bool x.f0, .string x.f1, .int .i64 x.f2, .int .i64 x.f3, .bool x.f4]) :
    OS w0 w (W.setCell ⟨gb, i * 5 + j, none⟩ y) g id (.slice (some ⟨gb, 0, none⟩) (its.set i x).length c) u (its.set i x) out rd he now := by
  obtain ⟨a1, a2, a3, a4⟩ := mem_put2 h.box h.ge h.row h.below hi hj hx
  obtain ⟨cs, hcs⟩ := mrow_typed h.row gb (by simp [Value.ownBlock])
  exact ⟨a1, h.ge, a2, nrow_set h.notes hcs (.inr rfl), h.new, a3, h.keep.trans a4⟩
theorem OS.now_ {w0 w W : World} {g : Nat} {id : Int} {v u : Value} {its : List S82} {out : List S56} {rd he now : Int} (h : OS w0 w W g id v u its out rd he now) (t : Int) : OS w0 w (W.setCell ⟨g, 4, none⟩ (.int .i64 t)) g id v u its out rd he t :=
  ⟨by have := h.box; unfold MBox at this ⊢; exact (blk_set this 4 _).trans rfl, h.ge, h.row.set h.box, nrow_set h.notes h.box (.inl rfl), h.new, h.below.setCell (p := ⟨g, 4, none⟩) h.ge _, h.keep.trans (KeepM.set h.box (.inl rfl))⟩
theorem OS.he_ {w0 w W : World} {g : Nat} {id : Int} {v u : Value} {its : List S82} {out : List S56} {rd he now : Int} (h : OS w0 w W g id v u its out rd he now) (t : Int) : OS w0 w (W.setCell ⟨g, 3, none⟩ (.int .i64 t)) g id v u its out rd t now :=
  ⟨by have := h.box; unfold MBox at this ⊢; exact (blk_set this 3 _).trans rfl, h.ge, h.row.set h.box, nrow_set h.notes h.box (.inl rfl), h.new, h.below.setCell (p := ⟨g, 3, none⟩) h.ge _, h.keep.trans (KeepM.set h.box (.inl rfl))⟩
theorem OS.done {w0 w W : World} {g : Nat} {id : Int} {v u : Value} {its : List S82} {out : List S56} {rd he now : Int} {r : OutR} {er : Int} (h : OS w0 w W g id v u its out rd he now) (hr : r = ⟨its, he, now, out, er⟩) : OutPost w0 w g id rd r (.returned (.tuple #[u, .int .i64 er])) W := by
  subst hr
  exact ⟨u, rfl, h.notes, ⟨v, h.box, h.ge, h.row⟩, h.below, h.keep⟩
def ORel (w0 w : World) (g gb c : Nat) (id rd he t : Int) (its : List S82) (n : Nat) (u i : Value) (wr : World) : Prop := ∃ j : Nat, j + n = its.length ∧ i = .int .i64 (j : Int) ∧ OS w0 w wr g id (.slice (some ⟨gb, 0, none⟩) its.length c) u (oRun id t its j).2 (oRun id t its j).1 rd he t
theorem not_sends_a {x1 : ByteArray} {x2 x3 t : Int} (h : x3 < 0 ∨ t < x3) : ¬ sends ⟨true, x1, x2, x3, false⟩ t := fun q => by
  rcases q with q | ⟨_, h1, h2⟩
  · exact absurd q (by simp)
  · simp only at h1 h2
    omega
theorem not_sends_b {x1 : ByteArray} {x2 x3 t : Int} : ¬ sends ⟨false, x1, x2, x3, false⟩ t := fun q => by
  rcases q with q | ⟨q, _⟩
  · exact absurd q (by simp)
  · exact absurd q (by simp)
theorem not_asks_a {x1 : ByteArray} {x2 x3 t : Int} {x4 : Bool} : ¬ asks ⟨true, x1, x2, x3, x4⟩ t := fun q => absurd q.1 (by simp)
theorem not_asks_b {x1 : ByteArray} {x2 x3 t : Int} {x4 : Bool} (h : t < x2) : ¬ asks ⟨false, x1, x2, x3, x4⟩ t := fun q => by
  have := q.2
  simp only at this
  omega
theorem step_send {id t : Int} {j : Nat} {o : List S56} {l : List S82} {x : S82} (hx : item l j = x) (hs : sends x t) : oStep id t j (o, l) = (o ++ [⟨1, id, j, x.f1⟩], l.set j { x with f3 := -1, f4 := false }) := by
  unfold oStep
  simp only [hx]
  rw [if_pos hs]
theorem step_ask {id t : Int} {j : Nat} {o : List S56} {l : List S82} {x : S82} (hx : item l j = x) (hs : ¬ sends x t) (ha : asks x t) : oStep id t j (o, l) = (o ++ [⟨2, id, j, ⟨#[]⟩⟩], l.set j { x with f2 := t + 20 }) := by
  unfold oStep
  simp only [hx]
  rw [if_neg hs, if_pos ha]
theorem step_none {id t : Int} {j : Nat} {o : List S56} {l : List S82} {x : S82} (hx : item l j = x) (hs : ¬ sends x t) (ha : ¬ asks x t) : oStep id t j (o, l) = (o, l) := by
  unfold oStep
  simp only [hx]
  rw [if_neg hs, if_neg ha]
set_option maxHeartbeats 1000000 in
theorem out_arg {w0 w : World} {g : Nat} {id rd he now t : Int} {its : List S82} (h : Mem w0.heap.size w g id its rd he now) (hb : Below w0.heap.size w0 w) (ht : t < 0 ∨ 1000000000 < t) :
    Calls Try.prog 29 #[.pointer (some ⟨g, 0, none⟩), .int .i64 t] w (OutPost w0 w g id rd (mOut id its he now t)) := by
  obtain ⟨v, hbox, hgb, hrow⟩ := h
  have HS := Aside0.mk (show OS w0 w w g id v (.slice none 0 0) its [] rd he now from ⟨hbox, hgb, hrow, Kd.R_nil _ _ _ _ _, fun k hk => by simp [Value.ownBlock] at hk, hb, KeepM.refl _⟩)
  have HE := Aside0.mk (show mOut id its he now t = ⟨its, he, now, [], 1⟩ from by unfold mOut; rw [if_pos ht])
  clear hbox hgb hrow hb
  by_cases h1 : t < 0
  · have d1 : decide (t < 0) = true := decide_eq_true h1
    clear h1 ht
    go_enter Try.func29, Try.ntmps29
    go_wp2
    go_ret2
    exact HS.out.done HE.out
  · have d1 : decide (t < 0) = false := decide_eq_false h1
    have d2 : decide (1000000000 < t) = true := decide_eq_true (by omega)
    clear h1 ht
    go_enter Try.func29, Try.ntmps29
    go_wp2
    go_ret2
    exact HS.out.done HE.out
set_option maxHeartbeats 1000000 in
theorem out_old {w0 w : World} {g : Nat} {id rd he now t : Int} {its : List S82} (h : Mem w0.heap.size w g id its rd he now) (hb : Below w0.heap.size w0 w) (ht : 0 ≤ t ∧ t ≤ 1000000000) (hnow : t < now) :
    Calls Try.prog 29 #[.pointer (some ⟨g, 0, none⟩), .int .i64 t] w (OutPost w0 w g id rd (mOut id its he now t)) := by
  obtain ⟨v, hbox, hgb, hrow⟩ := h
  have HS := Aside0.mk (show OS w0 w w g id v (.slice none 0 0) its [] rd he now from ⟨hbox, hgb, hrow, Kd.R_nil _ _ _ _ _, fun k hk => by simp [Value.ownBlock] at hk, hb, KeepM.refl _⟩)
  have HE := Aside0.mk (show mOut id its he now t = ⟨its, he, now, [], 13⟩ from by unfold mOut; rw [if_neg (by omega), if_pos hnow])
  have c4 : w.cell? ⟨g, 4, none⟩ = some (.int .i64 now) := (blk_cell hbox 4).trans rfl
  have d1 : decide (t < 0) = false := decide_eq_false (by omega)
  have d2 : decide (1000000000 < t) = false := decide_eq_false (by omega)
  have d3 : decide (t < now) = true := decide_eq_true hnow
  clear hbox hgb hrow hb ht hnow
  go_enter Try.func29, Try.ntmps29
  go_wp2
  go_ret2
  exact HS.out.done HE.out
set_option maxHeartbeats 8000000 in
set_option maxRecDepth 100000 in
theorem out_ok {w0 w : World} {g : Nat} {id rd he now t : Int} {its : List S82} (h : Mem w0.heap.size w g id its rd he now) (hb : Below w0.heap.size w0 w) (ht : 0 ≤ t ∧ t ≤ 1000000000) (hnow : ¬ t < now) (hl : its.length ≤ 64) (h0 : 0 < its.length) (hid : 0 ≤ id ∧ id ≤ 15) :
    Calls Try.prog 29 #[.pointer (some ⟨g, 0, none⟩), .int .i64 t] w (OutPost w0 w g id rd (mOut id its he now t)) := by
  obtain ⟨v, hbox, hgb, hrow⟩ := h
  obtain ⟨gb, c, rfl, _⟩ := row_form hrow h0
  have HS := Aside0.mk (show OS w0 w w g id (.slice (some ⟨gb, 0, none⟩) its.length c) (.slice none 0 0) its [] rd he now from ⟨hbox, hgb, hrow, Kd.R_nil _ _ _ _ _, fun k hk => by simp [Value.ownBlock] at hk, hb, KeepM.refl _⟩)
  have HE := Aside0.mk (show mOut id its he now t = if id = 0 ∧ 0 < its.length ∧ he ≤ t then ⟨(oRun id t its its.length).2, t + 50, t, (oRun id t its its.length).1 ++ [⟨3, 0, its.length, ⟨#[]⟩⟩], 0⟩ else ⟨(oRun id t its its.length).2, he, t, (oRun id t its its.length).1, 0⟩ from by unfold mOut; rw [if_neg (by omega), if_neg hnow])
  have c1 : w.cell? ⟨g, 1, none⟩ = some (.slice (some ⟨gb, 0, none⟩) its.length c) := (blk_cell hbox 1).trans rfl
  have c4 : w.cell? ⟨g, 4, none⟩ = some (.int .i64 now) := (blk_cell hbox 4).trans rfl
  have f4 : w.frozen? ⟨g, 4, none⟩ = false := blk_frozen hbox 4
  have d1 : decide (t < 0) = false := decide_eq_false (by omega)
  have d2 : decide (1000000000 < t) = false := decide_eq_false (by omega)
  have d3 : decide (t < now) = false := decide_eq_false hnow
  clear hbox hgb hrow hb hnow
  go_enter Try.func29, Try.ntmps29
  go_upto_region 7 with fail
  have hs := HS.out.now_ t
  generalize w.setCell ⟨g, 4, none⟩ (.int .i64 t) = wn at hs ⊢
  clear HS c1 c4 f4
  obtain ⟨c0, c1, c3, f3⟩ := hs.cells
  have HS := Aside0.mk hs
  clear hs
  go_wp2
  go_loopg [6, 32] its.length (fun n u i wr => ORel w0 w g gb c id rd he t its n u i wr)
  case atStart => exact ⟨0, by omega, rfl, HS.out⟩
  case round =>
    obtain ⟨j, hjn, rfl, hs⟩ := hrel
    have HJN := Aside0.mk hjn
    clear hjn HS c0 c1 c3 f3
    have HS := Aside0.mk hs
    clear hs
    by_cases hlt : j < its.length
    · have d0 : decide ((j : Int) < (its.length : Int)) = true := decide_eq_true (by omega)
      have d00 : decide (j < its.length) = true := decide_eq_true hlt
      obtain ⟨n, rfl⟩ : ∃ q, gk = q + 1 := ⟨gk - 1, by have := HJN.out; omega⟩
      have hrl := oRun_len id t its j
      obtain ⟨o, l, hol⟩ : ∃ o l, oRun id t its j = (o, l) := ⟨_, _, rfl⟩
      have hs := HS.out
      rw [hol] at hs hrl
      simp only at hs hrl
      have hjl : j < l.length := by omega
      have hol6 : o.length ≤ 64 := by omega
      have HOL := Aside0.mk hol
      have HLL := Aside0.mk hrl.1
      rw [← HLL.out] at hs
      clear hol hrl HS
      obtain ⟨c0, c1, c3, f3⟩ := hs.cells
      obtain ⟨i0, i1, i2, i3, i4, fz⟩ := row_item hs.row hjl
      obtain ⟨x, hx⟩ : ∃ x, item l j = x := ⟨_, rfl⟩
      rw [hx] at i0 i1 i2 i3 i4
      obtain ⟨x0, x1, x2, x3, x4⟩ := x
      have HX := Aside0.mk hx
      simp only at i0 i1 i2 i3 i4
      have z0 : wr.frozen? ⟨gb, j * 5, none⟩ = false := fz 0
      have z2 := fz 2
      have z3 := fz 3
      have z4 := fz 4
      have HS := Aside0.mk hs
      clear hs hx fz
      cases x4 with
      | true =>
        go_upto_region 12 with fail
        replace HS := Aside0.mk (HS.out.on (below_drew (Below.refl wr.heap.size wr)))
        go_region_held3 (fun w' => w'.cell? ⟨g, 0, none⟩ = some (.int .i64 id) ∧ w'.cell? ⟨gb, j * 5 + 1, none⟩ = some (.string x1)) (go_keep) ((refine Kd.R_append_step k56 (w0 := w0) w0.heap.size (by rfl) (.tmp 67) (.tmp 78) 48 56 (.agg #[.int .i64 0, .int .i64 0, .int .i64 0, .string ⟨#[]⟩]) 40 (by rfl) Try.underlying48 info56 rfl (by decide) (by omega) u6 o (⟨1, id, j, x1⟩ : S56) [.int .i64 1, .int .i64 id, .int .i64 (j : Int), .string x1] (fun _ => True) (fun _ => False) (by rfl) (by rfl) (k56_mkM _ _ _ (⟨1, id, j, x1⟩ : S56)) (fun _ hk => hk.elim) (fun _ _ => trivial) HS.out.notes HS.out.below HS.out.below.size (by omega) ?_; intro u1 w1 ho hb1 hg1 hat; have hs := HS.out.app ho hb1 hg1 hat; clear ho hb1 hg1 hat HS c0 c1 c3 f3 i0 i1 i2 i3 i4 z0 z2 z3 z4; obtain ⟨c0, c1, c3, f3⟩ := hs.cells; obtain ⟨i0, i1, i2, i3, i4, fz⟩ := row_item hs.row hjl; rw [HX.out] at i0 i1 i2 i3 i4; (try simp only at i0 i1 i2 i3 i4); have z2 := fz 2; have z3 := fz 3; have z4 := fz 4; have HS := Aside0.mk hs; clear hs fz))
        go_wp2
        go_roundg n
        case measure => omega
        case rel =>
          have he : oRun id t its (j + 1) = (o ++ [⟨1, id, j, x1⟩], l.set j ⟨x0, x1, x2, -1, false⟩) := by
            show oStep id t j (oRun id t its j) = _
            rw [HOL.out]
            exact step_send HX.out (Or.inl rfl)
          refine ⟨j + 1, by have := HJN.out; omega, by go_num, ?_⟩
          rw [he]
          simp only
          have hs := ((HS.out.put (j := 4) (y := .bool false) (x := ⟨x0, x1, x2, x3, false⟩) hjl (by omega) (by rw [HX.out]; rfl)).put (i := j) (j := 3) (y := .int .i64 (-1)) (x := ⟨x0, x1, x2, -1, false⟩) (by rw [List.length_set]; exact hjl) (by omega) (by rw [item_set hjl]; rfl))
          have hl2 := HLL.out
          (try simp only [List.length_set] at hs)
          rw [hl2] at hs
          (try simp only [List.set_set] at hs)
          exact hs
      | false =>
        cases x0 with
        | true =>
          by_cases h3 : 0 ≤ x3
          · have e3 : decide (0 ≤ x3) = true := decide_eq_true h3
            by_cases h4 : x3 ≤ t
            · have e4 : decide (x3 ≤ t) = true := decide_eq_true h4
              have HX3 := Aside0.mk (And.intro h3 h4)
              clear h3 h4
              go_upto_region 12 with fail
              replace HS := Aside0.mk (HS.out.on (below_drew (Below.refl wr.heap.size wr)))
              go_region_held3 (fun w' => w'.cell? ⟨g, 0, none⟩ = some (.int .i64 id) ∧ w'.cell? ⟨gb, j * 5 + 1, none⟩ = some (.string x1)) (go_keep) ((refine Kd.R_append_step k56 (w0 := w0) w0.heap.size (by rfl) (.tmp 67) (.tmp 78) 48 56 (.agg #[.int .i64 0, .int .i64 0, .int .i64 0, .string ⟨#[]⟩]) 40 (by rfl) Try.underlying48 info56 rfl (by decide) (by omega) u6 o (⟨1, id, j, x1⟩ : S56) [.int .i64 1, .int .i64 id, .int .i64 (j : Int), .string x1] (fun _ => True) (fun _ => False) (by rfl) (by rfl) (k56_mkM _ _ _ (⟨1, id, j, x1⟩ : S56)) (fun _ hk => hk.elim) (fun _ _ => trivial) HS.out.notes HS.out.below HS.out.below.size (by omega) ?_; intro u1 w1 ho hb1 hg1 hat; have hs := HS.out.app ho hb1 hg1 hat; clear ho hb1 hg1 hat HS c0 c1 c3 f3 i0 i1 i2 i3 i4 z0 z2 z3 z4; obtain ⟨c0, c1, c3, f3⟩ := hs.cells; obtain ⟨i0, i1, i2, i3, i4, fz⟩ := row_item hs.row hjl; rw [HX.out] at i0 i1 i2 i3 i4; (try simp only at i0 i1 i2 i3 i4); have z2 := fz 2; have z3 := fz 3; have z4 := fz 4; have HS := Aside0.mk hs; clear hs fz))
              go_wp2
              go_roundg n
              case measure => omega
              case rel =>
                have he : oRun id t its (j + 1) = (o ++ [⟨1, id, j, x1⟩], l.set j ⟨true, x1, x2, -1, false⟩) := by
                  show oStep id t j (oRun id t its j) = _
                  rw [HOL.out]
                  exact step_send HX.out (Or.inr ⟨rfl, HX3.out⟩)
                refine ⟨j + 1, by have := HJN.out; omega, by go_num, ?_⟩
                rw [he]
                simp only
                have hs := ((HS.out.put (j := 4) (y := .bool false) (x := ⟨true, x1, x2, x3, false⟩) hjl (by omega) (by rw [HX.out]; rfl)).put (i := j) (j := 3) (y := .int .i64 (-1)) (x := ⟨true, x1, x2, -1, false⟩) (by rw [List.length_set]; exact hjl) (by omega) (by rw [item_set hjl]; rfl))
                have hl2 := HLL.out
                (try simp only [List.length_set] at hs)
                rw [hl2] at hs
                (try simp only [List.set_set] at hs)
                exact hs
            · have e4 : decide (x3 ≤ t) = false := decide_eq_false h4
              have HX3 := Aside0.mk (show t < x3 from by omega)
              clear h3 h4
              go_wp2
              go_roundg n
              case measure => omega
              case rel =>
                have he : oRun id t its (j + 1) = (o, l) := by
                  show oStep id t j (oRun id t its j) = _
                  rw [HOL.out]
                  exact step_none HX.out (not_sends_a (.inr HX3.out)) not_asks_a
                refine ⟨j + 1, by have := HJN.out; omega, by go_num, ?_⟩
                rw [he]
                simp only
                have hs := HS.out
                have hl2 := HLL.out
                (try simp only [List.length_set] at hs)
                rw [hl2] at hs
                (try simp only [List.set_set] at hs)
                exact hs
          · have e3 : decide (0 ≤ x3) = false := decide_eq_false h3
            have HX3 := Aside0.mk (show x3 < 0 from by omega)
            clear h3
            go_wp2
            go_roundg n
            case measure => omega
            case rel =>
              have he : oRun id t its (j + 1) = (o, l) := by
                show oStep id t j (oRun id t its j) = _
                rw [HOL.out]
                exact step_none HX.out (not_sends_a (.inl HX3.out)) not_asks_a
              refine ⟨j + 1, by have := HJN.out; omega, by go_num, ?_⟩
              rw [he]
              simp only
              have hs := HS.out
              have hl2 := HLL.out
              (try simp only [List.length_set] at hs)
              rw [hl2] at hs
              (try simp only [List.set_set] at hs)
              exact hs
        | false =>
          by_cases h2 : x2 ≤ t
          · have e2 : decide (x2 ≤ t) = true := decide_eq_true h2
            have HX2 := Aside0.mk h2
            clear h2
            go_wp2_with ((with_reducible refine gate_builtin (b := .append) (xs := #[.tmp 100, .tmp 107]) rfl ?_); at_builtin; refine Kd.R_append k56 (w0 := w0) w0.heap.size rfl (.tmp 100) (.tmp 107) 48 56 (.agg #[.int .i64 0, .int .i64 0, .int .i64 0, .string ⟨#[]⟩]) 40 rfl Try.underlying48 info56 rfl (by decide) (by omega) u6 o (⟨2, id, j, ⟨#[]⟩⟩ : S56) [.int .i64 2, .int .i64 id, .int .i64 (j : Int), .string ⟨#[]⟩] (fun _ => True) (fun _ => False) rfl rfl (k56_mkM _ _ _ (⟨2, id, j, ⟨#[]⟩⟩ : S56)) (fun _ hk => hk.elim) (fun _ _ => trivial) HS.out.notes HS.out.below HS.out.below.size (by omega) ?_; intro u1 w1 ho hb1 hg1 hat; have hs := HS.out.app ho hb1 hg1 hat; clear ho hb1 hg1 hat HS c0 c1 c3 f3 i0 i1 i2 i3 i4 z0 z2 z3 z4; obtain ⟨c0, c1, c3, f3⟩ := hs.cells; obtain ⟨i0, i1, i2, i3, i4, fz⟩ := row_item hs.row hjl; rw [HX.out] at i0 i1 i2 i3 i4; (try simp only at i0 i1 i2 i3 i4); have z2 := fz 2; have z3 := fz 3; have z4 := fz 4; have HS := Aside0.mk hs; clear hs fz)
            go_roundg n
            case measure => omega
            case rel =>
              have he : oRun id t its (j + 1) = (o ++ [⟨2, id, j, ⟨#[]⟩⟩], l.set j ⟨false, x1, t + 20, x3, false⟩) := by
                show oStep id t j (oRun id t its j) = _
                rw [HOL.out]
                exact step_ask HX.out not_sends_b ⟨rfl, HX2.out⟩
              refine ⟨j + 1, by have := HJN.out; omega, by go_num, ?_⟩
              rw [he]
              simp only
              have hs := (HS.out.put (j := 2) (y := .int .i64 (t + 20)) (x := ⟨false, x1, t + 20, x3, false⟩) hjl (by omega) (by rw [HX.out]; rfl))
              have hl2 := HLL.out
              (try simp only [List.length_set] at hs)
              rw [hl2] at hs
              (try simp only [List.set_set] at hs)
              exact hs
          · have e2 : decide (x2 ≤ t) = false := decide_eq_false h2
            have HX2 := Aside0.mk (show t < x2 from by omega)
            clear h2
            go_wp2
            go_roundg n
            case measure => omega
            case rel =>
              have he : oRun id t its (j + 1) = (o, l) := by
                show oStep id t j (oRun id t its j) = _
                rw [HOL.out]
                exact step_none HX.out not_sends_b (not_asks_b HX2.out)
              refine ⟨j + 1, by have := HJN.out; omega, by go_num, ?_⟩
              rw [he]
              simp only
              have hs := HS.out
              have hl2 := HLL.out
              (try simp only [List.length_set] at hs)
              rw [hl2] at hs
              (try simp only [List.set_set] at hs)
              exact hs
    · have d0 : decide ((j : Int) < (its.length : Int)) = false := decide_eq_false (by omega)
      have d00 : decide (j < its.length) = false := decide_eq_false hlt
      obtain rfl : j = its.length := by have := HJN.out; omega
      obtain ⟨o, l, hol⟩ : ∃ o l, oRun id t its its.length = (o, l) := ⟨_, _, rfl⟩
      have hs := HS.out
      have hrl := oRun_len id t its its.length
      have hE := HE.out
      rw [hol] at hs hrl hE
      simp only at hs hrl hE
      have hol6 : o.length ≤ 64 := by omega
      obtain ⟨c0, c1, c3, f3⟩ := hs.cells
      clear HS HE hol hrl
      have HS := Aside0.mk hs
      clear hs
      have d4 : decide ((0 : Int) < (its.length : Int)) = true := decide_eq_true (by omega)
      have d44 : decide (0 < its.length) = true := decide_eq_true h0
      by_cases hz : id = 0
      · subst hz
        by_cases hh : he ≤ t
        · have d5 : decide (he ≤ t) = true := decide_eq_true hh
          rw [if_pos ⟨rfl, h0, hh⟩] at hE
          have HE := Aside0.mk hE
          clear hE hh
          go_wp2_with ((with_reducible refine gate_builtin (b := .append) (xs := #[.tmp 136, .tmp 143]) rfl ?_); at_builtin; refine Kd.R_append k56 (w0 := w0) w0.heap.size rfl (.tmp 136) (.tmp 143) 48 56 (.agg #[.int .i64 0, .int .i64 0, .int .i64 0, .string ⟨#[]⟩]) 40 rfl Try.underlying48 info56 rfl (by decide) (by omega) u6 o (⟨3, 0, its.length, ⟨#[]⟩⟩ : S56) [.int .i64 3, .int .i64 0, .int .i64 (its.length : Int), .string ⟨#[]⟩] (fun _ => True) (fun _ => False) rfl rfl (k56_mkM _ _ _ (⟨3, 0, its.length, ⟨#[]⟩⟩ : S56)) (fun _ hk => hk.elim) (fun _ _ => trivial) HS.out.notes HS.out.below HS.out.below.size (by omega) ?_; intro u1 w1 ho hb1 hg1 hat; have hs := HS.out.app ho hb1 hg1 hat; clear ho hb1 hg1 hat HS c0 c1 c3 f3; obtain ⟨c0, c1, c3, f3⟩ := hs.cells; have HS := Aside0.mk hs; clear hs)
          go_ret2
          exact (HS.out.he_ (t + 50)).done HE.out
        · have d5 : decide (he ≤ t) = false := decide_eq_false hh
          rw [if_neg (fun q => hh q.2.2)] at hE
          have HE := Aside0.mk hE
          clear hE hh
          go_wp2
          go_ret2
          exact HS.out.done HE.out
      · have d6 : (id == 0) = false := by simpa using hz
        rw [if_neg (fun q => hz q.1)] at hE
        have HE := Aside0.mk hE
        clear hE hz
        go_wp2
        go_ret2
        exact HS.out.done HE.out
def ERel (w0 w : World) (g : Nat) (v : Value) (id rd he t : Int) (n : Nat) (u i : Value) (wr : World) : Prop := u = .slice none 0 0 ∧ i = .int .i64 0 ∧ OS w0 w wr g id v (.slice none 0 0) [] [] rd he t
set_option maxHeartbeats 8000000 in
set_option maxRecDepth 100000 in
theorem out_empty {w0 w : World} {g : Nat} {id rd he now t : Int} (h : Mem w0.heap.size w g id [] rd he now) (hb : Below w0.heap.size w0 w) (ht : 0 ≤ t ∧ t ≤ 1000000000) (hnow : ¬ t < now) :
    Calls Try.prog 29 #[.pointer (some ⟨g, 0, none⟩), .int .i64 t] w (OutPost w0 w g id rd (mOut id [] he now t)) := by
  obtain ⟨v, hbox, hgb, hrow⟩ := h
  obtain ⟨A, c, rfl⟩ := Kd.R_slice hrow
  have HS := Aside0.mk (show OS w0 w w g id (.slice A 0 c) (.slice none 0 0) [] [] rd he now from ⟨hbox, hgb, hrow, Kd.R_nil _ _ _ _ _, fun k hk => by simp [Value.ownBlock] at hk, hb, KeepM.refl _⟩)
  have HE := Aside0.mk (show mOut id [] he now t = ⟨[], he, t, [], 0⟩ from by unfold mOut; rw [if_neg (by omega), if_neg hnow, if_neg (fun q => absurd q.2.1 (by simp))]; rfl)
  have c1 : w.cell? ⟨g, 1, none⟩ = some (.slice A 0 c) := (blk_cell hbox 1).trans rfl
  have c4 : w.cell? ⟨g, 4, none⟩ = some (.int .i64 now) := (blk_cell hbox 4).trans rfl
  have f4 : w.frozen? ⟨g, 4, none⟩ = false := blk_frozen hbox 4
  have d1 : decide (t < 0) = false := decide_eq_false (by omega)
  have d2 : decide (1000000000 < t) = false := decide_eq_false (by omega)
  have d3 : decide (t < now) = false := decide_eq_false hnow
  clear hbox hgb hrow hb hnow
  go_enter Try.func29, Try.ntmps29
  go_upto_region 7 with fail
  have hs := HS.out.now_ t
  generalize w.setCell ⟨g, 4, none⟩ (.int .i64 t) = wn at hs ⊢
  clear HS c1 c4 f4
  obtain ⟨c0, c1, c3, f3⟩ := hs.cells
  have HS := Aside0.mk hs
  clear hs
  go_wp2
  go_loopg [6, 32] 1 (fun n u i wr => ERel w0 w g (.slice A 0 c) id rd he t n u i wr)
  case atStart => exact ⟨rfl, rfl, HS.out⟩
  case round =>
    obtain ⟨rfl, rfl, hs⟩ := hrel
    clear HS c0 c1 c3 f3
    obtain ⟨c0, c1, c3, f3⟩ := hs.cells
    have HS := Aside0.mk hs
    clear hs
    by_cases hz : id = 0
    · subst hz
      go_wp2
      go_ret2
      exact HS.out.done HE.out
    · have d6 : (id == 0) = false := by simpa using hz
      clear hz
      go_wp2
      go_ret2
      exact HS.out.done HE.out
theorem out_calls {w0 w : World} {g : Nat} {id rd he now t : Int} {its : List S82} (h : Mem w0.heap.size w g id its rd he now) (hb : Below w0.heap.size w0 w) (hl : its.length ≤ 64) (hid : 0 ≤ id ∧ id ≤ 15) :
    Calls Try.prog 29 #[.pointer (some ⟨g, 0, none⟩), .int .i64 t] w (OutPost w0 w g id rd (mOut id its he now t)) := by
  by_cases ht : t < 0 ∨ 1000000000 < t
  · exact out_arg h hb ht
  have ht2 : 0 ≤ t ∧ t ≤ 1000000000 := by omega
  by_cases hnow : t < now
  · exact out_old h hb ht2 hnow
  cases its with
  | nil => exact out_empty h hb ht2 hnow
  | cons a l => exact out_ok h hb ht2 hnow hl (by simp) hid
end Go.Proofs.Ytcllcjflgeiehaa.PCastPlays
