/- Proved: what a receive buffer answers to a string that is too long, and what the law's fact returns. -/
import Derived.Test.YtcllcjflgeiehaaRecvBlocks
import Derived.Test.YtcllcjflgeiehaaRecvIn
import Derived.BigRegion
namespace Go.Proofs.Ytcllcjflgeiehaa.PRecvPlays
open Go.RowKit Go.Proofs.YtcllcjflgeiehaaW.PrintWords Go.Proofs.YtcllcjflgeiehaaW.PrintLast Go.Proofs.YtcllcjflgeiehaaW.PrintMore
set_option linter.unusedVariables false
set_option linter.unusedSimpArgs false
theorem in_large {w : World} {g : Nat} {frm : Int} {s : ByteArray} (h : 4096 < s.size) : Calls Try.prog 9 #[.pointer (some ⟨g, 0, none⟩), .int .u32 frm, .string s] w fun e w' => e = .returned (.tuple #[.int .i64 0, .int .i64 2]) ∧ Below w.heap.size w w' := by
  have d1 : decide ((4096 : Int) < (s.size : Int)) = true := decide_eq_true (by omega)
  clear h
  go_enter Try.func9, Try.ntmps9
  go_wp2
  go_ret2
  exact ⟨rfl, Below.refl _ _⟩
set_option maxHeartbeats 4000000 in
theorem fact_true (w : World) : Calls Try.prog 5 #[] w fun e w' => e = .returned (.bool true) ∧ Below w.heap.size w w' := by
  go_enter Try.func5, Try.ntmps5
  go_wp2_with (first | (go_at_call 6; (with_reducible refine (new_yes 5 10 w (by decide)).mono ?_); rintro e' w1 ⟨g, rfl, hbuf, hb⟩; have HBUF := Aside0.mk hbuf; have HB := Aside0.mk hb; clear hbuf hb) | (go_at_call 15; (with_reducible refine (window_calls HBUF.out (by decide) (by decide)).mono ?_); rintro e' w2 ⟨rfl, hd2⟩; have HD2 := Aside0.mk hd2; clear hd2) | (go_at_call 13; (with_reducible refine (next_calls (HBUF.out.below HD2.out.below)).mono ?_); rintro e' w3 ⟨rfl, hd3⟩; have HD3 := Aside0.mk hd3; clear hd3))
  go_ret
  exact ⟨rfl, HB.out.trans ((HD2.out.below.trans (HD3.out.below.mono HD2.out.below.size)).mono HB.out.size)⟩
end Go.Proofs.Ytcllcjflgeiehaa.PRecvPlays
