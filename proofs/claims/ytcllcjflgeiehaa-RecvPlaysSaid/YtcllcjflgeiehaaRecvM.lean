/- Proved: what a receive buffer's memory holds, and how an append and a cut turn a row of it. No condition. -/
import Derived.Test.YtcllcjflgeiehaaPRecvPlaysx2
import Derived.Deep.Upon
namespace Go.Proofs.Ytcllcjflgeiehaa.PRecvPlays
open Go.RowKit Go.Proofs.YtcllcjflgeiehaaW.PrintWords Go.Proofs.YtcllcjflgeiehaaW.PrintLast Go.Proofs.YtcllcjflgeiehaaW.PrintMore
set_option linter.unusedVariables false
set_option linter.unusedSimpArgs false
theorem blw {w w1 w2 : World} (h : Below w.heap.size w w1) (h2 : Below w1.heap.size w1 w2) : Below w.heap.size w w2 := h.trans (h2.mono h.size)
theorem info4 : (Try.prog.info? 4).map (fun i => (i.zero, i.size, i.bytes)) = some (some (.bool false), 1, 1) := by kernel_rfl
theorem grown_refl (w : World) (r : Option Nat) : w.grownBy w r := ⟨rfl, rfl, rfl, Nat.le_refl _, fun _ _ _ => rfl⟩
/-- An append to a row of one-cell elements of one byte: nothing, or cells that are read. -/
theorem app_any {w : World} {B t e : Nat} {z : Value} (ht : Try.prog.underlying t = some (.slice e)) (hinfo : (Try.prog.info? e).map (fun i => (i.zero, i.size, i.bytes)) = some (some z, 1, 1)) (hz : z.cells.size = 1) {v : Value} {n : Nat} {xs : List Value} (h : QRow w B e 1 v n xs) (hB : B ≤ w.heap.size)
    {A : Option Addr} {m c : Nat} {news : List Value} (hl : news.length = m) (hc : ∀ ad, A = some ad → ∀ j u, news[j]? = some u → w.cell? (ad.add j) = some u) (hA : 0 < m → ∃ ad, A = some ad) (h1 : ∀ u ∈ news, u.oneCell' = true) (hmc : m ≤ c) (hb : n + m ≤ 1000000000) :
    ∃ v' w', (Builtin.append_ #[t, t] t #[v, .slice A m c]).run Try.prog w = .ok v' w' ∧ QRow w' B e 1 v' (n + m) (xs ++ news) ∧ w.grownBy w' v.ownBlock ∧ (v'.ownBlock = v.ownBlock ∨ ∃ b, v'.ownBlock = some b ∧ w.heap.size ≤ b) := by
  obtain ⟨i0, hi, hzz⟩ := Option.map_eq_some_iff.1 hinfo
  simp only [Prod.mk.injEq] at hzz
  obtain ⟨hz0, hz1, hz2⟩ := hzz
  have hm : maxLen = 9223372036854775807 := rfl
  by_cases h0 : m = 0
  · subst h0
    have hn : news = [] := List.eq_nil_of_length_eq_zero hl
    subst hn
    obtain ⟨A', c', rfl, hnc⟩ := q_slice h
    have hsrc : Src Try.prog i0.size t (.slice A 0 c) 0 [] w := by
      cases A with
      | none => exact Src.ofNil w ht c
      | some ad => exact Src.ofSlice w ht ad 0 c [] (by simp) (fun j u hu => by simp at hu) (fun u hu => by simp at hu)
    exact ⟨_, w, run_append_nothing (P := Try.prog) w t t t e i0 ht hi A' n c' hnc _ hsrc, by rw [List.append_nil]; exact h, grown_refl w _, .inl rfl⟩
  · obtain ⟨ad, rfl⟩ := hA (by omega)
    exact q_append (P := Try.prog) w B t t e i0 z 1 1 ht hi hz0 hz1 hz2 hz (by decide) v n xs h ad m c news (by omega) (hc ad rfl) h1 (by omega) (by rw [hm]; omega) (by omega) hB
/-! The buffer. -/
def u8s (l : List Int) : List Value := l.map (Value.int .u8)
def bls (l : List Bool) : List Value := l.map Value.bool
structure Rows (B : Nat) (w : World) (g : Nat) (vr vd vt : Value) (rd da : List Int) (th : List Bool) : Prop where
  r : QRow w B 5 1 vr rd.length (u8s rd)
  d : QRow w B 5 1 vd da.length (u8s da)
  t : QRow w B 4 1 vt th.length (bls th)
  ap : ∀ k, vr.ownBlock = some k → vd.ownBlock ≠ some k
def Box (w : World) (g : Nat) (nx room : Int) (vr vd vt : Value) : Prop := w.heap[g]? = some (.cells #[.int .u32 nx, .int .i64 room, vr, vd, vt] 71 (0, 0))
def Buf (B : Nat) (w : World) (g : Nat) (nx room : Int) (rd da : List Int) (th : List Bool) : Prop := ∃ vr vd vt, Box w g nx room vr vd vt ∧ B ≤ g ∧ Rows B w g vr vd vt rd da th
theorem row_ne {wr : World} {bs n size B : Nat} {e t : TypeId} {q : Value} {xs : List Value} {cs : Array Value} (h : QRow wr B e size q n xs) (ha : wr.heap[bs]? = some (.cells cs t (0, 0))) (hne : e ≠ t) : ∀ k, q.ownBlock = some k → k ≠ bs := by
  intro k hk
  obtain ⟨_, cells, hc⟩ := q_typed h k hk
  exact blk_ne hc ha hne
theorem Rows.move {B : Nat} {w w1 : World} {g : Nat} {vr vd vt : Value} {rd da : List Int} {th : List Bool} (h : Rows B w g vr vd vt rd da th) (hk : ∀ k, k < w.heap.size → k ≠ g → w1.heap[k]? = w.heap[k]?) {cs : Array Value} (hg : w.heap[g]? = some (.cells cs 71 (0, 0))) : Rows B w1 g vr vd vt rd da th :=
  ⟨q_move h.r (fun k he => hk k (q_lt h.r k he) (row_ne h.r hg (by decide) k he)), q_move h.d (fun k he => hk k (q_lt h.d k he) (row_ne h.d hg (by decide) k he)), q_move h.t (fun k he => hk k (q_lt h.t k he) (row_ne h.t hg (by decide) k he)), h.ap⟩
theorem Buf.below {B : Nat} {w w1 : World} {g : Nat} {nx room : Int} {rd da : List Int} {th : List Bool} (h : Buf B w g nx room rd da th) (hb : Below w.heap.size w w1) : Buf B w1 g nx room rd da th := by
  obtain ⟨vr, vd, vt, hbox, hg, hr⟩ := h
  exact ⟨vr, vd, vt, blk_below hbox hb, hg, hr.move (fun k hk _ => hb.block k hk) hbox⟩
/-- The three slices stand as slices. -/
theorem Buf.open {B : Nat} {w : World} {g : Nat} {nx room : Int} {rd da : List Int} {th : List Bool} (h : Buf B w g nx room rd da th) : ∃ Ar cr Ad cd At ct, Box w g nx room (.slice Ar rd.length cr) (.slice Ad da.length cd) (.slice At th.length ct) ∧ B ≤ g ∧ Rows B w g (.slice Ar rd.length cr) (.slice Ad da.length cd) (.slice At th.length ct) rd da th ∧ rd.length ≤ cr ∧ da.length ≤ cd ∧ th.length ≤ ct := by
  obtain ⟨vr, vd, vt, hbox, hg, hr⟩ := h
  obtain ⟨Ar, cr, rfl, hrc⟩ := q_slice hr.r
  obtain ⟨Ad, cd, rfl, hdc⟩ := q_slice hr.d
  obtain ⟨At, ct, rfl, htc⟩ := q_slice hr.t
  exact ⟨Ar, cr, Ad, cd, At, ct, hbox, hg, hr, hrc, hdc, htc⟩
theorem u8s_len (l : List Int) : (u8s l).length = l.length := by unfold u8s; simp
theorem bls_len (l : List Bool) : (bls l).length = l.length := by unfold bls; simp
theorem u8s_at (l : List Int) (j : Nat) (h : j < l.length) : (u8s l)[j]? = some (.int .u8 (rd l j)) := by unfold u8s rd; simp [List.getD, h]
theorem bls_at (l : List Bool) (j : Nat) (h : j < l.length) : (bls l)[j]? = some (.bool (l.getD j false)) := by unfold bls; simp [List.getD, h]
theorem u8s_one (l : List Int) : ∀ u ∈ u8s l, u.oneCell' = true := by intro u hu; unfold u8s at hu; obtain ⟨_, _, rfl⟩ := List.mem_map.1 hu; rfl
theorem bls_one (l : List Bool) : ∀ u ∈ bls l, u.oneCell' = true := by intro u hu; unfold bls at hu; obtain ⟨_, _, rfl⟩ := List.mem_map.1 hu; rfl

theorem window_calls {B : Nat} {w : World} {g : Nat} {nx room : Int} {rd da : List Int} {th : List Bool} (h : Buf B w g nx room rd da th) (h1 : 0 ≤ room ∧ room ≤ 65535) (h2 : rd.length ≤ 1000000) :
    Calls Try.prog 15 #[.pointer (some ⟨g, 0, none⟩)] w fun e w' => e = .returned (.int .i64 (room - (rd.length : Int))) ∧ Drawn0 w w' := by
  obtain ⟨Ar, cr, Ad, cd, At, ct, hbox, hg, hr, _⟩ := h.open
  clear hr h
  have c1 := blk_cell hbox 1
  have c2 := blk_cell hbox 2
  clear hbox
  go_enter Try.func15, Try.ntmps15
  go_wp2
  go_quiet (fail)
  go_wp2
  go_ret
  exact ⟨rfl, by repeat (first | exact Drawn0.refl _ | apply Drawn0.step)⟩
theorem next_calls {B : Nat} {w : World} {g : Nat} {nx room : Int} {rd da : List Int} {th : List Bool} (h : Buf B w g nx room rd da th) :
    Calls Try.prog 13 #[.pointer (some ⟨g, 0, none⟩)] w fun e w' => e = .returned (.int .u32 nx) ∧ Drawn0 w w' := by
  obtain ⟨Ar, cr, Ad, cd, At, ct, hbox, hg, hr, _⟩ := h.open
  clear hr h
  have c0 := blk_cell hbox 0
  clear hbox
  go_enter Try.func13, Try.ntmps13
  go_wp2
  (try go_quiet (fail))
  go_wp2
  go_ret
  exact ⟨rfl, by repeat (first | exact Drawn0.refl _ | apply Drawn0.step)⟩
theorem ready_calls {B : Nat} {w : World} {g : Nat} {nx room : Int} {rd da : List Int} {th : List Bool} (h : Buf B w g nx room rd da th) :
    Calls Try.prog 17 #[.pointer (some ⟨g, 0, none⟩)] w fun e w' => e = .returned (.int .i64 (rd.length : Int)) ∧ Drawn0 w w' := by
  obtain ⟨Ar, cr, Ad, cd, At, ct, hbox, hg, hr, _⟩ := h.open
  clear hr h
  have c2 := blk_cell hbox 2
  clear hbox
  go_enter Try.func17, Try.ntmps17
  go_wp2
  (try go_quiet (fail))
  go_wp2
  go_ret
  exact ⟨rfl, by repeat (first | exact Drawn0.refl _ | apply Drawn0.step)⟩
theorem new_no (f room : Int) (w : World) (h : ¬ (1 ≤ room ∧ room ≤ 65535)) : Calls Try.prog 6 #[.int .u32 f, .int .i64 room] w fun e w' => e = .returned (.tuple #[.pointer none, .int .i64 1]) ∧ Below w.heap.size w w' := by
  by_cases h1 : room < 1
  · have d1 : decide (room < 1) = true := decide_eq_true h1
    clear h h1
    go_enter Try.func6, Try.ntmps6
    go_wp2
    go_ret2
    exact ⟨rfl, Below.refl _ _⟩
  · have d1 : decide (room < 1) = false := decide_eq_false h1
    have d2 : decide (65535 < room) = true := decide_eq_true (by omega)
    clear h h1
    go_enter Try.func6, Try.ntmps6
    go_wp2
    go_ret2
    exact ⟨rfl, Below.refl _ _⟩
theorem new_yes (f room : Int) (w : World) (h : 1 ≤ room ∧ room ≤ 65535) : Calls Try.prog 6 #[.int .u32 f, .int .i64 room] w fun e w' => ∃ g, e = .returned (.tuple #[.pointer (some ⟨g, 0, none⟩), .int .i64 0]) ∧ Buf w.heap.size w' g f room [] [] [] ∧ Below w.heap.size w w' := by
  have d1 : decide (room < 1) = false := decide_eq_false (by omega)
  have d2 : decide (65535 < room) = false := decide_eq_false (by omega)
  clear h
  go_enter Try.func6, Try.ntmps6
  go_wp2
  go_ret2
  have q0 : ∀ (W : World) (e : Nat), QRow W w.heap.size e 1 (.slice none 0 0) 0 [] := fun W e => ⟨rfl, .inl ⟨rfl, none, rfl, fun a ha => by cases ha⟩⟩
  exact ⟨w.heap.size, rfl, ⟨_, _, _, heap_alloc_new w _, Nat.le_refl _, q0 _ 5, q0 _ 5, q0 _ 4, fun k hk => by simp [Value.ownBlock] at hk⟩, (Below.refl _ _).alloc (Nat.le_refl _) _⟩
end Go.Proofs.Ytcllcjflgeiehaa.PRecvPlays
