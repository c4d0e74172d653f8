/- Proved: for every input StreamRefuses returns true, and each argument reads afterwards as it read before. No condition. -/
import Derived.Test.YtjiiejeldgkdiaaRows
import Derived.Test.YtjiiejeldgkdiaaStreamPlain
import Derived.Test.YtjiiejeldgkdiaaOpenRow
import Derived.WalkKit
import Derived.ProofKit
import Derived.OpenShut
import Derived.ShutString
import Derived.ChangeOld
import Derived.Below
import Derived.SizedLaws
import Derived.Lib.SmallJoins
import Derived.Deep.Slices
import Derived.Deep.Fields
import Derived.ChangeSame
namespace Go.Proofs.Ytjiiejeldgkdiaa.streamRefuses
open Go.ChangeShapes Go.WideShapes Go.ChangeAt Go.RowKit Go.Joins Go.Deep Go.Proofs.YtjiiejeldgkdiaaW.PrintWords
open Go.ChangeMaps (open_string shut_string)
set_option linter.unusedVariables false
set_option linter.unusedSimpArgs false
theorem own : ownKnob Try.prog.godebug = none := by kernel_rfl
theorem laidOut : laidOutB Try.prog = true := by kernel_rfl
section
variable {H : Type} {enc : TypeId × Value → H} {P : Program} {w : World} {base : Nat} {spare : Nat → Bool} {held : Bool}
theorem open_fields8 {r : Reach} {b0 : Nat} {t : TypeId} {f0 f1 f2 f3 f4 f5 f6 f7 : Field} {v : Value} {d : DataW H} {p : List MemPlace} (hs : P.underlying t = some (.struct #[f0, f1, f2, f3, f4, f5, f6, f7])) (hone : oneCellFields P #[f0, f1, f2, f3, f4, f5, f6, f7] = true) (hC : P.cellsOf t = 8)
    (hv : Value.okWide P w r b0 t v) (h : DataW.Trod enc P w base spare held t v d p) :
    ∃ (v0 v1 v2 v3 v4 v5 v6 v7 : Value) (y0 y1 y2 y3 y4 y5 y6 y7 : DataW H × List MemPlace) (n : Nat), v = .agg #[v0, v1, v2, v3, v4, v5, v6, v7] ∧ DataW.trod enc P w base spare held n f0.type [v0] = some y0 ∧ DataW.trod enc P w base spare held n f1.type [v1] = some y1 ∧ DataW.trod enc P w base spare held n f2.type [v2] = some y2 ∧ DataW.trod enc P w base spare held n f3.type [v3] = some y3 ∧ DataW.trod enc P w base spare held n f4.type [v4] = some y4 ∧ DataW.trod enc P w base spare held n f5.type [v5] = some y5 ∧ DataW.trod enc P w base spare held n f6.type [v6] = some y6 ∧ DataW.trod enc P w base spare held n f7.type [v7] = some y7 := by
  obtain ⟨cs, rfl, hsz⟩ := okWide_struct hs hv
  obtain ⟨l⟩ := cs
  match l, hsz.trans hC with
  | [c0, c1, c2, c3, c4, c5, c6, c7], _ =>
    obtain ⟨fuel, hf⟩ := h
    obtain ⟨xs, n, _, _, _, hlen, hg⟩ := DataW.trod_struct hs hf
    obtain ⟨o0, k0⟩ := hone_of hone 0 f0 rfl
    obtain ⟨o1, k1⟩ := hone_of hone 1 f1 rfl
    obtain ⟨o2, k2⟩ := hone_of hone 2 f2 rfl
    obtain ⟨o3, k3⟩ := hone_of hone 3 f3 rfl
    obtain ⟨o4, k4⟩ := hone_of hone 4 f4 rfl
    obtain ⟨o5, k5⟩ := hone_of hone 5 f5 rfl
    obtain ⟨o6, k6⟩ := hone_of hone 6 f6 rfl
    obtain ⟨o7, k7⟩ := hone_of hone 7 f7 rfl
    match xs, hlen with
    | [y0, y1, y2, y3, y4, y5, y6, y7], _ =>
      exact ⟨c0, c1, c2, c3, c4, c5, c6, c7, y0, y1, y2, y3, y4, y5, y6, y7, n, rfl, by simpa [Value.cells, o0, k0] using hg 0 f0 rfl, by simpa [Value.cells, o1, k1] using hg 1 f1 rfl, by simpa [Value.cells, o2, k2] using hg 2 f2 rfl, by simpa [Value.cells, o3, k3] using hg 3 f3 rfl, by simpa [Value.cells, o4, k4] using hg 4 f4 rfl, by simpa [Value.cells, o5, k5] using hg 5 f5 rfl, by simpa [Value.cells, o6, k6] using hg 6 f6 rfl, by simpa [Value.cells, o7, k7] using hg 7 f7 rfl⟩
end
theorem cells35 : Try.prog.cellsOf 35 = 8 := by kernel_rfl
theorem u32b {a : Int} (h : (Lit.int .u32 a).wf = true) : 0 ≤ a ∧ a < 4294967296 := by
  simp [Lit.wf, IntKind.min, IntKind.max, IntKind.signed, IntKind.bits] at h; omega
theorem i64b {a : Int} (h : (Lit.int .i64 a).wf = true) : -9223372036854775808 ≤ a ∧ a ≤ 9223372036854775807 := by
  simp [Lit.wf, IntKind.min, IntKind.max, IntKind.signed, IntKind.bits] at h; omega
theorem row_of_slice {H : Type} {enc : TypeId × Value → H} {w : World} {base : Nat} {spare : Nat → Bool} {held : Bool} {fuel : Nat} {v : Value} {x : DataW H × List MemPlace} (h : DataW.trod enc Try.prog w base spare held fuel 33 [v] = some x) :
    ∃ (A : Option Addr) (n : Nat) (l : List PStreamRefuses.S77), [v] = [.slice A l.length n] ∧ Kd.C PStreamRefuses.k77 w A l.length l ∧ l.length ≤ n ∧ Stream.Wf l := by
  obtain ⟨A, c, ps, e, hl, hm, hwf, hcell⟩ := OpenRow.open_pairs h
  refine ⟨A, c, ps.map (fun p => ⟨p.1, p.2⟩), by simpa using e, ?_, by simpa using hl, ?_⟩
  · refine ⟨rfl, ?_, fun h0 => ?_⟩
    · have : maxLen ≤ 9223372036854775807 := by unfold maxLen; decide
      simp only [List.length_map]
      omega
    · obtain ⟨ad, rfl, hj⟩ := hcell (by simpa using h0)
      refine ⟨ad, rfl, fun j p hp => ?_⟩
      simp only [List.getElem?_map, Option.map_eq_some_iff] at hp
      obtain ⟨q, hq, rfl⟩ := hp
      obtain ⟨c0, c1⟩ := hj j q hq
      refine ⟨_, rfl, PStreamRefuses.k77_mk w ⟨q.1, q.2⟩, fun i u hu => ?_⟩
      match i, hu with
      | 0, hu => simp only [List.getElem?_cons_zero, Option.some.injEq] at hu; subst hu; exact c0
      | 1, hu => simp only [List.getElem?_cons_succ, List.getElem?_cons_zero, Option.some.injEq] at hu; subst hu; exact c1
  · intro z hz
    simp only [List.mem_map] at hz
    obtain ⟨q, hq, rfl⟩ := hz
    obtain ⟨a, b⟩ := hwf q hq
    exact ⟨u32b a, u32b b⟩
set_option maxHeartbeats 1000000 in
set_option maxRecDepth 100000 in
theorem lifted (os : Os) (started : os.Started) (H : Type) (enc : TypeId × Value → H) :
    ReturnsInHanded {} Try.checked os 4 .any (Rows.streamRefusesSpec.pre6 enc Try.prog Try.f4 Rows.streamRefusesRow.domain false) (Rows.streamRefusesSpec.post enc Try.prog Try.f4 false true false false) := by
  refine returnsInHanded_of_change_sized (C := Try.checked) own started (by kernel_rfl) Try.func4
    (ChangeSpec.witness6 (enc := enc) (C := Try.checked) false ⟨#[], #[.agg #[.int .i64 0, .int .i64 0, .int .u32 0, .int .u32 0, .int .i64 0, .int .i64 0, .slice none 0 0, .string ByteArray.empty]], []⟩ 8 (by kernel_rfl) (by kernel_rfl) (by kernel_rfl) (by kernel_rfl)) ?_
  intro W base args ds gs before hval0 hW hcnd hsz0 _
  have hsz : (DataW.weightsEach Try.prog (Try.f4.params.toList ++ Rows.streamRefusesSpec.plain.varTypes Try.prog) (ds ++ gs)).all (· ≤ reachBytes) = true := hsz0
  have hval : ∀ (j : Nat) t v, Try.f4.params[j]? = some t → args[j]? = some v → Value.okWide Try.prog W .any base t v := hval0
  have hW' := hW
  obtain ⟨p, q, hA0, hV, rfl, hfz, hnd⟩ := hW
  have hA : DataW.TrodAll enc Try.prog W 0 (fun _ => true) true Try.f4.params.toList args.toList ds p := hA0
  rw [Try.params4] at hA hval hsz
  obtain ⟨v0, vs0, d0, ds0, p0, q0, hargs, rfl, rfl, h0, r0⟩ := trodAll_cons hA
  obtain ⟨rfl, rfl, rfl⟩ := trodAll_nil r0
  obtain rfl : args = #[v0] := by cases args; simp_all
  obtain ⟨rfl, rfl⟩ := trodVars_none hV
  have g0 := h0
  have lt0 : ∀ x ∈ p0, x.block < W.heap.size := by obtain ⟨m, hm⟩ := g0; exact DataW.trod_lt m _ _ _ hm
  obtain ⟨c0_0, c0_1, c0_2, c0_3, c0_4, c0_5, c0_6, c0_7, y0_0, y0_1, y0_2, y0_3, y0_4, y0_5, y0_6, y0_7, m0, hv0, k0_0, k0_1, k0_2, k0_3, k0_4, k0_5, k0_6, k0_7⟩ := open_fields8 Try.underlying35 (by kernel_rfl) cells35 (hval 0 35 v0 rfl rfl) h0
  obtain ⟨a0_0, b0_0, _, w0_0⟩ := DataW.trod_int Try.underlying3 k0_0
  obtain rfl := List.cons.inj b0_0 |>.1
  obtain ⟨a0_1, b0_1, _, w0_1⟩ := DataW.trod_int Try.underlying3 k0_1
  obtain rfl := List.cons.inj b0_1 |>.1
  obtain ⟨a0_2, b0_2, _, w0_2⟩ := DataW.trod_int Try.underlying22 k0_2
  obtain rfl := List.cons.inj b0_2 |>.1
  obtain ⟨a0_3, b0_3, _, w0_3⟩ := DataW.trod_int Try.underlying22 k0_3
  obtain rfl := List.cons.inj b0_3 |>.1
  obtain ⟨a0_4, b0_4, _, w0_4⟩ := DataW.trod_int Try.underlying3 k0_4
  obtain rfl := List.cons.inj b0_4 |>.1
  obtain ⟨a0_5, b0_5, _, w0_5⟩ := DataW.trod_int Try.underlying3 k0_5
  obtain rfl := List.cons.inj b0_5 |>.1
  obtain ⟨A0_6, n0_6, l0_6, b0_6, R0_6, L0_6, w0_6⟩ := row_of_slice k0_6
  obtain rfl := List.cons.inj b0_6 |>.1
  obtain ⟨a0_7, b0_7, _, w0_7⟩ := DataW.trod_string Try.underlying9 k0_7
  obtain rfl := List.cons.inj b0_7 |>.1
  subst hv0
  clear hA0 hval0 hsz0 hsz
  refine (PStreamRefuses.patchbaylaw3_StreamRefuses.calls 11 a0_0 a0_1 a0_2 a0_3 a0_4 a0_5 A0_6 n0_6 l0_6 a0_7 true W R0_6 L0_6 (Stream.law a0_0 a0_1 a0_2 a0_3 a0_4 a0_5 l0_6 a0_7 (i64b w0_4) w0_6 (u32b w0_2)) rfl).mono fun e W' ⟨he, bel⟩ => ?_
  subst he
  exact ⟨_, rfl, _, _, _, [], _, [], hW', trodAll_mk1 (shut_bool Try.underlying4 _), (trodAll_cons_mk (Below.trod laidOut (by kernel_rfl) (of_decide_eq_true (by kernel_rfl)) g0 bel lt0) trodAll_mk0), rfl, bel.frame _, fun h => by cases h⟩
theorem over : Rows.streamRefusesRow.holds Try.pinned (OpenSpec.ofChange Rows.streamRefusesSpec) :=
  OpenClaim.holds_of_wide 4 Try.f4 rfl rfl rfl rfl rfl rfl rfl ⟨rfl, rfl, rfl, rfl, rfl⟩ rfl rfl rfl rfl rfl (by kernel_rfl) Try.func4 (by kernel_rfl)
    (of_decide_eq_true (by kernel_rfl)) (by unfold Func.isWrapper; first | (rw [if_pos (by decide +kernel)]; kernel_rfl) | (rw [if_neg (by decide +kernel)]; exact ⟨rfl, rfl⟩))
    (fun os started H enc _ => lifted os started H enc)
theorem proved : Rows.StreamRefusesSaid := over
#print axioms proved
end Go.Proofs.Ytjiiejeldgkdiaa.streamRefuses
namespace Go.Proofs.Ytjiiejeldgkdiaa
/-- The row, under a short name, for the claim. -/
theorem streamRefuses_holds : Rows.StreamRefusesSaid := streamRefuses.proved
end Go.Proofs.Ytjiiejeldgkdiaa
