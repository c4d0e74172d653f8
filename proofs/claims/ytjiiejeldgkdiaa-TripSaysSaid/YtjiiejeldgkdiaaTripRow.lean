/- Proved: for every input TripSays returns true, and each argument reads afterwards as it read before. No condition. -/
import Derived.Test.YtjiiejeldgkdiaaRows
import Derived.Test.YtjiiejeldgkdiaaTripPlain
import Derived.WalkKit
import Derived.ProofKit
import Derived.OpenShut
import Derived.ShutString
import Derived.ChangeOld
import Derived.Below
import Derived.SizedLaws
import Derived.Lib.SmallJoins
namespace Go.Proofs.Ytjiiejeldgkdiaa.tripSays
open Go.ChangeShapes Go.WideShapes Go.ChangeAt Go.RowKit Go.Joins
open Go.ChangeMaps (open_string shut_string)
set_option linter.unusedVariables false
theorem own : ownKnob Try.prog.godebug = none := by kernel_rfl
theorem laidOut : laidOutB Try.prog = true := by kernel_rfl
theorem cells42 : Try.prog.cellsOf 42 = 4 := by kernel_rfl
theorem trip_walk (has : Bool) (sm va sh m : Int) (w : World) : Calls Try.prog 5 #[.agg #[.bool has, .int .i64 sm, .int .i64 va, .int .i64 sh], .int .i64 m] w fun e w' => e = .returned (.bool true) ∧ Below w.heap.size w w' := by
  by_cases h : Trip.tE has sm va sh = 0
  · exact PTripSays.patchbaylaw3_TripSays.calls 14 has sm va sh m true w (Trip.law_ok has sm va sh m h) rfl
  · exact PTripSays.patchbaylaw3_TripSays.calls 13 has sm va sh m true w (Trip.law_bad has sm va sh m h) rfl
set_option maxRecDepth 100000 in
theorem lifted (os : Os) (started : os.Started) (H : Type) (enc : TypeId × Value → H) :
    ReturnsInHanded {} Try.checked os 5 .any (Rows.tripSaysSpec.pre6 enc Try.prog Try.f5 Rows.tripSaysRow.domain false) (Rows.tripSaysSpec.post enc Try.prog Try.f5 false true false false) := by
  refine returnsInHanded_of_change_sized (C := Try.checked) own started (by kernel_rfl) Try.func5
    (ChangeSpec.witness6 (enc := enc) (C := Try.checked) false ⟨#[], #[.agg #[.bool false, .int .i64 0, .int .i64 0, .int .i64 0], .int .i64 0], []⟩ 8 (by kernel_rfl) (by kernel_rfl) (by kernel_rfl) (by kernel_rfl)) ?_
  intro W base args ds gs before hval0 hW hcnd hsz0 _
  have hval : ∀ (j : Nat) t v, Try.f5.params[j]? = some t → args[j]? = some v → Value.okWide Try.prog W .any base t v := hval0
  have hW' := hW
  obtain ⟨p, q, hA0, hV, rfl, hfz, hnd⟩ := hW
  have hA : DataW.TrodAll enc Try.prog W 0 (fun _ => true) true Try.f5.params.toList args.toList ds p := hA0
  rw [Try.params5] at hA hval
  obtain ⟨v0, vs0, d0, ds0, p0, q0, hargs, rfl, rfl, h0, r0⟩ := trodAll_cons hA
  obtain ⟨v1, vs1, d1, ds1, p1, q1, rfl, rfl, rfl, h1, r1⟩ := trodAll_cons r0
  obtain ⟨rfl, rfl, rfl⟩ := trodAll_nil r1
  obtain rfl : args = #[v0, v1] := by cases args; simp_all
  obtain ⟨rfl, rfl⟩ := trodVars_none hV
  have k0 := h0
  have k1 := h1
  have lt0 : ∀ x ∈ p0, x.block < W.heap.size := by obtain ⟨m, hm⟩ := k0; exact DataW.trod_lt m _ _ _ hm
  have lt1 : ∀ x ∈ p1, x.block < W.heap.size := by obtain ⟨m, hm⟩ := k1; exact DataW.trod_lt m _ _ _ hm
  obtain ⟨c0, c1, c2, c3, y0, y1, y2, y3, m, hv, hd, hp, hy0, hy1, hy2, hy3⟩ := open_agg4 Try.underlying42 (by kernel_rfl) cells42 (hval 0 42 v0 rfl rfl) h0
  obtain ⟨a0, e0, _⟩ := DataW.trod_bool Try.underlying4 hy0
  obtain ⟨a1, e1, _⟩ := DataW.trod_int Try.underlying3 hy1
  obtain ⟨a2, e2, _⟩ := DataW.trod_int Try.underlying3 hy2
  obtain ⟨a3, e3, _⟩ := DataW.trod_int Try.underlying3 hy3
  simp at e0 e1 e2 e3
  subst hv e0 e1 e2 e3
  obtain ⟨b, hb0, _⟩ := open_int Try.underlying3 (hval 1 3 v1 rfl rfl) h1
  subst hb0
  clear hA0 hval0 hsz0
  refine (trip_walk a0 a1 a2 a3 b W).mono fun e W' ⟨he, bel⟩ => ?_
  subst he
  exact ⟨_, rfl, _, _, _, [], _, [], hW', trodAll_mk1 (shut_bool Try.underlying4 _), (trodAll_cons_mk (Below.trod laidOut (by kernel_rfl) (of_decide_eq_true (by kernel_rfl)) k0 bel lt0) (trodAll_cons_mk (Below.trod laidOut (by kernel_rfl) (of_decide_eq_true (by kernel_rfl)) k1 bel lt1) trodAll_mk0)), rfl, bel.frame _, fun h => by cases h⟩
theorem over : Rows.tripSaysRow.holds Try.pinned (OpenSpec.ofChange Rows.tripSaysSpec) :=
  OpenClaim.holds_of_wide 5 Try.f5 rfl rfl rfl rfl rfl rfl rfl ⟨rfl, rfl, rfl, rfl, rfl⟩ rfl rfl rfl rfl rfl (by kernel_rfl) Try.func5 (by kernel_rfl)
    (of_decide_eq_true (by kernel_rfl)) (by unfold Func.isWrapper; first | (rw [if_pos (by decide +kernel)]; kernel_rfl) | (rw [if_neg (by decide +kernel)]; exact ⟨rfl, rfl⟩))
    (fun os started H enc _ => lifted os started H enc)
theorem proved : Rows.TripSaysSaid := over
#print axioms proved
end Go.Proofs.Ytjiiejeldgkdiaa.tripSays
namespace Go.Proofs.Ytjiiejeldgkdiaa
/-- The row, under a short name, for the claim. -/
theorem tripSays_holds : Rows.TripSaysSaid := tripSays.proved
end Go.Proofs.Ytjiiejeldgkdiaa
