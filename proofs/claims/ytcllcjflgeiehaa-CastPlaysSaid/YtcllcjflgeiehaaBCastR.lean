/- Proved: what Read of a member of a broadcast stream does. -/
import Derived.Test.YtcllcjflgeiehaaBCastN
namespace Go.Proofs.Ytcllcjflgeiehaa.PCastPlays
open Go.RowKit Go.Proofs.YtcllcjflgeiehaaW.PrintWords Go.Proofs.YtcllcjflgeiehaaW.PrintLast Go.Proofs.YtcllcjflgeiehaaW.PrintMore
set_option linter.unusedVariables false
set_option linter.unusedSimpArgs false
theorem Mem.drewN {B : Nat} {w : World} {g : Nat} {id : Int} {its : List S82} {rd he now : Int} (h : Mem B w g id its rd he now) (n : Nat) : Mem B (w.drewN n) g id its rd he now := h.below (pw_below_drewN (Below.refl _ _) n)
theorem Mem.rd_ {w0 w : World} {g : Nat} {id : Int} {its : List S82} {rd he now : Int} (h : Mem w0.heap.size w g id its rd he now) (hb : Below w0.heap.size w0 w) (r : Int) : Mem w0.heap.size (w.setCell ⟨g, 2, none⟩ (.int .i64 r)) g id its r he now ∧ Below w0.heap.size w0 (w.setCell ⟨g, 2, none⟩ (.int .i64 r)) ∧ KeepM w (w.setCell ⟨g, 2, none⟩ (.int .i64 r)) := by
  obtain ⟨v, hbox, hge, hrow⟩ := h
  exact ⟨⟨v, by unfold MBox at hbox ⊢; exact (blk_set hbox 2 _).trans rfl, hge, hrow.set hbox⟩, hb.setCell (p := ⟨g, 2, none⟩) hge _, KeepM.set hbox (.inl rfl)⟩
set_option maxHeartbeats 1000000 in
theorem read_no {w0 w : World} {g r : Nat} {id he now : Int} {its : List S82} (h : Mem w0.heap.size w g id its (r : Int) he now) (hb : Below w0.heap.size w0 w) (hl : its.length ≤ 64) (hr : mGot its ≤ r) :
    Calls Try.prog 30 #[.pointer (some ⟨g, 0, none⟩)] w fun e w' => e = .returned (.tuple #[.string ⟨#[]⟩, .bool false]) ∧ Mem w0.heap.size w' g id its (r : Int) he now ∧ Below w0.heap.size w0 w' ∧ KeepM w w' := by
  have HM := Aside0.mk h
  have HB := Aside0.mk hb
  obtain ⟨v, hbox, _, _⟩ := h
  have c2 : w.cell? ⟨g, 2, none⟩ = some (.int .i64 (r : Int)) := (blk_cell hbox 2).trans rfl
  have d1 : decide (mGot its ≤ r) = true := decide_eq_true hr
  clear hbox hb
  go_enter Try.func30, Try.ntmps30
  go_wp2
  go_quiet ((go_at_call 32; exact Calls.quiet_of_same ((got_calls (HM.out.drewN _) hl).mono fun _ _ q => ⟨q.1, q.2.symm⟩)))
  go_wp2
  go_ret2
  exact ⟨rfl, HM.out.drewN _, pw_below_drewN HB.out _, KeepM.below (pw_below_drewN (Below.refl _ _) _)⟩
set_option maxHeartbeats 1000000 in
theorem read_yes {w0 w : World} {g r : Nat} {id he now : Int} {its : List S82} (h : Mem w0.heap.size w g id its (r : Int) he now) (hb : Below w0.heap.size w0 w) (hl : its.length ≤ 64) (hr : r < mGot its) :
    Calls Try.prog 30 #[.pointer (some ⟨g, 0, none⟩)] w fun e w' => e = .returned (.tuple #[.string (item its r).f1, .bool true]) ∧ Mem w0.heap.size w' g id its ((r + 1 : Nat) : Int) he now ∧ Below w0.heap.size w0 w' ∧ KeepM w w' := by
  have HM := Aside0.mk h
  have HB := Aside0.mk hb
  have hgl := mGot_le its
  obtain ⟨v, hbox, _, hrow⟩ := h
  have c2 : w.cell? ⟨g, 2, none⟩ = some (.int .i64 (r : Int)) := (blk_cell hbox 2).trans rfl
  have f2 := blk_frozen hbox 2
  have d1 : decide (mGot its ≤ r) = false := decide_eq_false (by omega)
  have hrl : r < its.length := by omega
  clear hbox hb hrow hr
  go_enter Try.func30, Try.ntmps30
  go_wp2
  go_quiet ((go_at_call 32; exact Calls.quiet_of_same ((got_calls (HM.out.drewN _) hl).mono fun _ _ q => ⟨q.1, q.2.symm⟩)))
  go_upto_region 4 with fail
  obtain ⟨hm, hb1, hk1⟩ := (HM.out.drewN nq).rd_ (pw_below_drewN HB.out nq) ((r : Int) + 1)
  have hk2 := (KeepM.below (pw_below_drewN (Below.refl w.heap.size w) nq)).trans hk1
  generalize (w.drewN nq).setCell ⟨g, 2, none⟩ (.int .i64 ((r : Int) + 1)) = w5 at hm hb1 hk2 ⊢
  clear c2 f2 hk1
  have HM5 := Aside0.mk hm
  have HB5 := Aside0.mk hb1
  have HK5 := Aside0.mk hk2
  obtain ⟨v5, hbox5, _, hrow5⟩ := hm
  obtain ⟨gb, c5, rfl, _⟩ := row_form hrow5 (by omega)
  have c1 : w5.cell? ⟨g, 1, none⟩ = some (.slice (some ⟨gb, 0, none⟩) its.length c5) := (blk_cell hbox5 1).trans rfl
  have c2 : w5.cell? ⟨g, 2, none⟩ = some (.int .i64 ((r : Int) + 1)) := (blk_cell hbox5 2).trans rfl
  obtain ⟨_, i1, _⟩ := row_item hrow5 hrl
  have hw1 : IntKind.i64.wrap ((r : Int) + 1 - 1) = (r : Int) := by rw [show (r : Int) + 1 - 1 = (r : Int) from by omega]; exact Go.IntWalk.i64_in _ (by omega)
  clear hbox5 hrow5 hb1 hk2
  go_quiet (fail)
  go_wp2
  go_ret2
  exact ⟨rfl, by rw [show ((r + 1 : Nat) : Int) = (r : Int) + 1 from by omega]; exact HM5.out.drewN _, pw_below_drewN HB5.out _, HK5.out.trans (KeepM.below (pw_below_drewN (Below.refl _ _) _))⟩
end Go.Proofs.Ytcllcjflgeiehaa.PCastPlays
