/- Proved: what In, beyond and Got of a member of a broadcast stream do. -/
import Derived.Test.YtcllcjflgeiehaaBCastK
import Derived.Test.YtcllcjflgeiehaaBCastX4
namespace Go.Proofs.Ytcllcjflgeiehaa.PCastPlays
open Go.RowKit Go.Proofs.YtcllcjflgeiehaaW.PrintWords Go.Proofs.YtcllcjflgeiehaaW.PrintLast Go.Proofs.YtcllcjflgeiehaaW.PrintMore
set_option linter.unusedVariables false
set_option linter.unusedSimpArgs false
/-- A member beside a note's box. -/
structure MS (w0 W : World) (g z : Nat) (id : Int) (v : Value) (its : List S82) (rd he now k f n : Int) (s : ByteArray) : Prop where
  box : MBox W g id v rd he now
  ge : w0.heap.size ≤ g
  row : MRow w0.heap.size W v its
  below : Below w0.heap.size w0 W
  zbox : W.heap[z]? = some (.cells #[.int .i64 k, .int .i64 f, .int .i64 n, .string s] 56 (0, 0))
theorem MS.on {w0 W W' : World} {g z : Nat} {id : Int} {v : Value} {its : List S82} {rd he now k f n : Int} {s : ByteArray} (h : MS w0 W g z id v its rd he now k f n s) (hb : Below W.heap.size W W') : MS w0 W' g z id v its rd he now k f n s :=
  ⟨blk_below h.box hb, h.ge, h.row.below hb, h.below.trans (hb.mono h.below.size), blk_below h.zbox hb⟩
theorem MS.mem {w0 W : World} {g z : Nat} {id : Int} {v : Value} {its : List S82} {rd he now k f n : Int} {s : ByteArray} (h : MS w0 W g z id v its rd he now k f n s) : Mem w0.heap.size W g id its rd he now := ⟨v, h.box, h.ge, h.row⟩
theorem MS.cells {w0 W : World} {g z : Nat} {id : Int} {v : Value} {its : List S82} {rd he now k f n : Int} {s : ByteArray} (h : MS w0 W g z id v its rd he now k f n s) :
    W.cell? ⟨g, 0, none⟩ = some (.int .i64 id) ∧ W.cell? ⟨g, 1, none⟩ = some v ∧ W.cell? ⟨g, 4, none⟩ = some (.int .i64 now) ∧ W.frozen? ⟨g, 4, none⟩ = false ∧ W.cell? ⟨z, 0, none⟩ = some (.int .i64 k) ∧ W.cell? ⟨z, 1, none⟩ = some (.int .i64 f) ∧ W.cell? ⟨z, 2, none⟩ = some (.int .i64 n) ∧ W.cell? ⟨z, 3, none⟩ = some (.string s) :=
  ⟨(blk_cell h.box 0).trans rfl, (blk_cell h.box 1).trans rfl, (blk_cell h.box 4).trans rfl, blk_frozen h.box 4, (blk_cell h.zbox 0).trans rfl, (blk_cell h.zbox 1).trans rfl, (blk_cell h.zbox 2).trans rfl, (blk_cell h.zbox 3).trans rfl⟩
theorem MS.now_ {w0 W : World} {g z : Nat} {id : Int} {v : Value} {its : List S82} {rd he now k f n : Int} {s : ByteArray} (h : MS w0 W g z id v its rd he now k f n s) (t : Int) : MS w0 (W.setCell ⟨g, 4, none⟩ (.int .i64 t)) g z id v its rd he t k f n s ∧ KeepM W (W.setCell ⟨g, 4, none⟩ (.int .i64 t)) := by
  have hne : z ≠ g := fun e => by
    have h1 := h.zbox
    have h2 := h.box
    unfold MBox at h2
    rw [e, h2] at h1
    injection h1 with h1
    injection h1 with _ h1
    exact absurd h1 (by decide)
  exact ⟨⟨by have := h.box; unfold MBox at this ⊢; exact (blk_set this 4 _).trans rfl, h.ge, h.row.set h.box, h.below.setCell (p := ⟨g, 4, none⟩) h.ge _, (Below.heap_setCell W ⟨g, 4, none⟩ _ z hne).trans h.zbox⟩, KeepM.set h.box (.inl rfl)⟩
def mBeyond (k n : Int) (its : List S82) : Bool := if k = 3 then decide ((its.length : Int) < n) else decide ((its.length : Int) ≤ n)
set_option maxHeartbeats 1000000 in
theorem beyond_calls {w0 w : World} {g : Nat} {id rd he now k f n : Int} {its : List S82} {s : ByteArray} (h : Mem w0.heap.size w g id its rd he now) (hb : Below w0.heap.size w0 w) :
    Calls Try.prog 41 #[.pointer (some ⟨g, 0, none⟩), .agg #[.int .i64 k, .int .i64 f, .int .i64 n, .string s]] w fun e w' => e = .returned (.bool (mBeyond k n its)) ∧ Below w.heap.size w w' := by
  obtain ⟨v, hbox, hgb, hrow⟩ := h
  obtain ⟨A, c, rfl⟩ := Kd.R_slice hrow
  have HBOX := Aside0.mk hbox
  clear hbox hgb hrow hb
  have key : ∀ (z : Nat) (wz : World), wz.heap[z]? = some (.cells #[.int .i64 k, .int .i64 f, .int .i64 n, .string s] 56 (0, 0)) → Below w.heap.size w wz → wz.cell? ⟨g, 1, none⟩ = some (.slice A its.length c) ∧ wz.cell? ⟨z, 0, none⟩ = some (.int .i64 k) ∧ wz.cell? ⟨z, 2, none⟩ = some (.int .i64 n) := fun z wz h1 h2 =>
    ⟨(blk_cell (blk_below HBOX.out h2) 1).trans rfl, (blk_cell h1 0).trans rfl, (blk_cell h1 2).trans rfl⟩
  have KEY := Aside0.mk key
  clear key
  by_cases hk : k = 3
  · subst hk
    have HE := Aside0.mk (show mBeyond 3 n its = decide ((its.length : Int) < n) from by unfold mBeyond; rw [if_pos rfl])
    go_enter Try.func41, Try.ntmps41
    go_wp2_with ((with_reducible refine gate_dst (N := 3) rfl ?_); refine box_event ?hg (N := 3) ?hd (cs := #[.int .i64 3, .int .i64 f, .int .i64 n, .string s]) (t := 56) ?hr ?_; (case hd => rfl); (case hg => rfl); (case hr => first | (go_simp; done) | (go_simp; rfl)); intro z hz_ wz zbox zb; clear hz_; obtain ⟨c1, z0, z2⟩ := KEY.out z wz zbox zb; have ZB := Aside0.mk zb; clear zb zbox)
    go_quiet (fail)
    go_wp2
    go_ret
    rw [HE.out]
    exact ⟨rfl, pw_below_drewN ZB.out _⟩
  · have HE := Aside0.mk (show mBeyond k n its = decide ((its.length : Int) ≤ n) from by unfold mBeyond; rw [if_neg hk])
    have d0 : (k == 3) = false := by simpa using hk
    clear hk
    go_enter Try.func41, Try.ntmps41
    go_wp2_with ((with_reducible refine gate_dst (N := 3) rfl ?_); refine box_event ?hg (N := 3) ?hd (cs := #[.int .i64 k, .int .i64 f, .int .i64 n, .string s]) (t := 56) ?hr ?_; (case hd => rfl); (case hg => rfl); (case hr => first | (go_simp; done) | (go_simp; rfl)); intro z hz_ wz zbox zb; clear hz_; obtain ⟨c1, z0, z2⟩ := KEY.out z wz zbox zb; have ZB := Aside0.mk zb; clear zb zbox)
    go_quiet (fail)
    go_wp2
    go_ret
    rw [HE.out]
    exact ⟨rfl, pw_below_drewN ZB.out _⟩
def mGot (its : List S82) : Nat := (its.takeWhile (·.f0)).length
theorem mGot_le (its : List S82) : mGot its ≤ its.length := (List.takeWhile_prefix _).length_le
theorem mGot_drop (its : List S82) (j : Nat) (h : j < its.length) : mGot (its.drop j) = if (item its j).f0 then 1 + mGot (its.drop (j + 1)) else 0 := by
  have e : its.drop j = item its j :: its.drop (j + 1) := by
    rw [List.drop_eq_getElem_cons h]
    unfold item
    rw [List.getD_eq_getElem?_getD, List.getElem?_eq_getElem h]
    rfl
  rw [e]
  unfold mGot
  rw [List.takeWhile_cons]
  cases (item its j).f0 with
  | true => simp; omega
  | false => simp
set_option maxHeartbeats 1000000 in
theorem got_calls {w0 w : World} {g : Nat} {id rd he now : Int} {its : List S82} (h : Mem w0.heap.size w g id its rd he now) (hl : its.length ≤ 64) :
    Calls Try.prog 32 #[.pointer (some ⟨g, 0, none⟩)] w fun e w' => e = .returned (.int .i64 (mGot its : Int)) ∧ w = w' := by
  obtain ⟨v, hbox, hgb, hrow⟩ := h
  obtain ⟨A, c, rfl⟩ := Kd.R_slice hrow
  have HROW := Aside0.mk hrow
  have c1 : w.cell? ⟨g, 1, none⟩ = some (.slice A its.length c) := (blk_cell hbox 1).trans rfl
  clear hbox hgb hrow
  go_enter Try.func32, Try.ntmps32
  go_wp2
  go_loop [3] (fun v => ∃ j : Nat, v = .int .i64 (j : Int) ∧ j ≤ its.length ∧ Aside0 (j + mGot (its.drop j) = mGot its)) (fun v => its.length - (intOf v).toNat)
  case atStart => exact ⟨0, rfl, Nat.zero_le _, ⟨by simp⟩⟩
  case round =>
    obtain ⟨j, rfl, hj, HJ⟩ := hrel
    by_cases hlt : j < its.length
    · have d1 : decide (j < its.length) = true := decide_eq_true hlt
      have HD := Aside0.mk (mGot_drop its j hlt)
      obtain ⟨gb, c2, he, _⟩ := row_form HROW.out (by omega)
      injection he with he1 _ he2
      subst he1
      obtain ⟨i0, _⟩ := row_item HROW.out hlt
      obtain ⟨x, hx⟩ : ∃ x, (item its j).f0 = x := ⟨_, rfl⟩
      rw [hx] at i0 HD
      clear hx he2
      cases x with
      | true =>
        go_wp2
        go_round
        case rel =>
          refine ⟨j + 1, by go_num, by omega, ⟨?_⟩⟩
          have h1 := HD.out
          have h2 := HJ.out
          rw [if_pos rfl] at h1
          omega
        case measure => simp [intOf]; omega
      | false =>
        go_wp2
        go_ret
        have h1 := HD.out
        have h2 := HJ.out
        rw [if_neg (by simp)] at h1
        exact ⟨by rw [← h2, h1]; rfl, rfl⟩
    · have d1 : decide (j < its.length) = false := decide_eq_false hlt
      have HD := Aside0.mk (show mGot (its.drop j) = 0 from by rw [List.drop_eq_nil_of_le (by omega)]; rfl)
      go_wp2
      go_ret
      have h1 := HD.out
      have h2 := HJ.out
      exact ⟨by rw [← h2, h1]; rfl, rfl⟩
end Go.Proofs.Ytcllcjflgeiehaa.PCastPlays
