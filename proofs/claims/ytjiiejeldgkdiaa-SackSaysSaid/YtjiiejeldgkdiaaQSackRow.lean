/- Proved: for every input SackSays returns true, and each argument reads afterwards as it read before. No condition. -/
import Derived.Test.YtjiiejeldgkdiaaRows
import Derived.Test.YtjiiejeldgkdiaaQSackEnd
import Derived.Test.YtjiiejeldgkdiaaQOpenRow
import Derived.WalkKit
import Derived.ProofKit
import Derived.OpenShut
import Derived.ShutString
import Derived.ChangeOld
import Derived.Below
import Derived.SizedLaws
import Derived.Lib.SmallJoins
import Derived.Deep.Slices
import Derived.Deep.Fields
import Derived.ChangeSame
namespace Go.Proofs.Ytjiiejeldgkdiaa.sackSays
open Go.ChangeShapes Go.WideShapes Go.ChangeAt Go.RowKit Go.Joins Go.Deep Go.Proofs.YtjiiejeldgkdiaaW.PrintWords
open Go.ChangeMaps (open_string shut_string)
set_option linter.unusedVariables false
set_option linter.unusedSimpArgs false
theorem own : ownKnob Try.prog.godebug = none := by kernel_rfl
theorem laidOut : laidOutB Try.prog = true := by kernel_rfl
section
variable {H : Type} {enc : TypeId × Value → H} {P : Program} {w : World} {base : Nat} {spare : Nat → Bool} {held : Bool}
theorem open_fields3 {r : Reach} {b0 : Nat} {t : TypeId} {f0 f1 f2 : Field} {v : Value} {d : DataW H} {p : List MemPlace} (hs : P.underlying t = some (.struct #[f0, f1, f2])) (hone : oneCellFields P #[f0, f1, f2] = true) (hC : P.cellsOf t = 3)
    (hv : Value.okWide P w r b0 t v) (h : DataW.Trod enc P w base spare held t v d p) :
    ∃ (v0 v1 v2 : Value) (y0 y1 y2 : DataW H × List MemPlace) (n : Nat), v = .agg #[v0, v1, v2] ∧ DataW.trod enc P w base spare held n f0.type [v0] = some y0 ∧ DataW.trod enc P w base spare held n f1.type [v1] = some y1 ∧ DataW.trod enc P w base spare held n f2.type [v2] = some y2 := by
  obtain ⟨cs, rfl, hsz⟩ := okWide_struct hs hv
  obtain ⟨l⟩ := cs
  match l, hsz.trans hC with
  | [c0, c1, c2], _ =>
    obtain ⟨fuel, hf⟩ := h
    obtain ⟨xs, n, _, _, _, hlen, hg⟩ := DataW.trod_struct hs hf
    obtain ⟨o0, k0⟩ := hone_of hone 0 f0 rfl
    obtain ⟨o1, k1⟩ := hone_of hone 1 f1 rfl
    obtain ⟨o2, k2⟩ := hone_of hone 2 f2 rfl
    match xs, hlen with
    | [y0, y1, y2], _ =>
      exact ⟨c0, c1, c2, y0, y1, y2, n, rfl, by simpa [Value.cells, o0, k0] using hg 0 f0 rfl, by simpa [Value.cells, o1, k1] using hg 1 f1 rfl, by simpa [Value.cells, o2, k2] using hg 2 f2 rfl⟩
end
theorem cells66 : Try.prog.cellsOf 66 = 3 := by kernel_rfl
theorem u32b {a : Int} (h : (Lit.int .u32 a).wf = true) : 0 ≤ a ∧ a < 4294967296 := by
  simp [Lit.wf, IntKind.min, IntKind.max, IntKind.signed, IntKind.bits] at h; omega
theorem walk (a n : Int) (A : Option Addr) (c : Nat) (held : List PSackSays.S77) (ack : Int) (A2 : Option Addr) (c2 : Nat) (l2 : List PSackSays.S77) (least last : Int) (w : World) (hu : Sack.U32 a) (hn : Sack.U32 n) (hack : Sack.U32 ack) (ha : Sack.U32 last) (hr : Kd.C PSackSays.k77 w A held.length held) (hc : held.length ≤ c) (hr2 : Kd.C PSackSays.k77 w A2 l2.length l2) (hc2 : l2.length ≤ c2) (hh : Sack.Wf held) (hw : Sack.Wf l2) :
    Calls Try.prog 7 #[.agg #[.int .u32 a, .int .u32 n, .slice A held.length c], .int .u32 ack, .slice A2 l2.length c2, .int .i64 least, .int .u32 last] w fun e w' => e = .returned (.bool true) ∧ Below w.heap.size w w' := by
  obtain ⟨nx, k, h1, _, h2⟩ := Sack.law_all a n held ack l2 least last hu hn hack ha hh hw hr2.2.1
  exact PSackSays.patchbaylaw3_SackSays.calls k a n nx A c held ack A2 c2 l2 least last true w h1 hr hc hr2 hc2 h2 rfl
theorem row_of_slice {H : Type} {enc : TypeId × Value → H} {w : World} {base : Nat} {spare : Nat → Bool} {held : Bool} {fuel : Nat} {v : Value} {x : DataW H × List MemPlace} (h : DataW.trod enc Try.prog w base spare held fuel 33 [v] = some x) :
    ∃ (A : Option Addr) (n : Nat) (l : List PSackSays.S77), [v] = [.slice A l.length n] ∧ Kd.C PSackSays.k77 w A l.length l ∧ l.length ≤ n ∧ Sack.Wf l := by
  obtain ⟨A, c, ps, e, hl, hm, hwf, hcell⟩ := OpenRow.open_pairs h
  refine ⟨A, c, ps.map (fun p => ⟨p.1, p.2⟩), by simpa using e, ?_, by simpa using hl, ?_⟩
  · refine ⟨rfl, ?_, fun h0 => ?_⟩
    · have : maxLen ≤ 9223372036854775807 := by unfold maxLen; decide
      simp only [List.length_map]
      omega
    · obtain ⟨ad, rfl, hj⟩ := hcell (by simpa using h0)
      refine ⟨ad, rfl, fun j p hp => ?_⟩
      simp only [List.getElem?_map, Option.map_eq_some_iff] at hp
      obtain ⟨q, hq, rfl⟩ := hp
      obtain ⟨c0, c1⟩ := hj j q hq
      refine ⟨_, rfl, PSackSays.k77_mk w ⟨q.1, q.2⟩, fun i u hu => ?_⟩
      match i, hu with
      | 0, hu => simp only [List.getElem?_cons_zero, Option.some.injEq] at hu; subst hu; exact c0
      | 1, hu => simp only [List.getElem?_cons_succ, List.getElem?_cons_zero, Option.some.injEq] at hu; subst hu; exact c1
  · intro z hz
    simp only [List.mem_map] at hz
    obtain ⟨q, hq, rfl⟩ := hz
    obtain ⟨a, b⟩ := hwf q hq
    exact ⟨u32b a, u32b b⟩
set_option maxRecDepth 100000 in
theorem row_of_arg {H : Type} {enc : TypeId × Value → H} {w : World} {base b0 : Nat} {r : Reach} {spare : Nat → Bool} {held : Bool} {v : Value} {d : DataW H} {p : List MemPlace} (hv : Value.okWide Try.prog w r b0 33 v) (h : DataW.Trod enc Try.prog w base spare held 33 v d p) :
    ∃ (A : Option Addr) (n : Nat) (l : List PSackSays.S77), v = .slice A l.length n ∧ Kd.C PSackSays.k77 w A l.length l ∧ l.length ≤ n ∧ Sack.Wf l := by
  obtain ⟨A', l', c', rfl⟩ := okWide_slice Try.underlying33 hv
  obtain ⟨m, hm⟩ := h
  obtain ⟨A, n, l, e, R, L, W⟩ := row_of_slice (fuel := m) hm
  exact ⟨A, n, l, (List.cons.inj e).1, R, L, W⟩
set_option maxHeartbeats 1000000 in
set_option maxRecDepth 100000 in
theorem lifted (os : Os) (started : os.Started) (H : Type) (enc : TypeId × Value → H) :
    ReturnsInHanded {} Try.checked os 7 .any (Rows.sackSaysSpec.pre6 enc Try.prog Try.f7 Rows.sackSaysRow.domain false) (Rows.sackSaysSpec.post enc Try.prog Try.f7 false true false false) := by
  refine returnsInHanded_of_change_sized (C := Try.checked) own started (by kernel_rfl) Try.func7
    (ChangeSpec.witness6 (enc := enc) (C := Try.checked) false ⟨#[], #[.agg #[.int .u32 0, .int .u32 0, .slice none 0 0], .int .u32 0, .slice none 0 0, .int .i64 0, .int .u32 0], []⟩ 8 (by kernel_rfl) (by kernel_rfl) (by kernel_rfl) (by kernel_rfl)) ?_
  intro W base args ds gs before hval0 hW hcnd hsz0 _
  have hsz : (DataW.weightsEach Try.prog (Try.f7.params.toList ++ Rows.sackSaysSpec.plain.varTypes Try.prog) (ds ++ gs)).all (· ≤ reachBytes) = true := hsz0
  have hval : ∀ (j : Nat) t v, Try.f7.params[j]? = some t → args[j]? = some v → Value.okWide Try.prog W .any base t v := hval0
  have hW' := hW
  obtain ⟨p, q, hA0, hV, rfl, hfz, hnd⟩ := hW
  have hA : DataW.TrodAll enc Try.prog W 0 (fun _ => true) true Try.f7.params.toList args.toList ds p := hA0
  rw [Try.params7] at hA hval hsz
  obtain ⟨v0, vs0, d0, ds0, p0, q0, hargs, rfl, rfl, h0, r0⟩ := trodAll_cons hA
  obtain ⟨v1, vs1, d1, ds1, p1, q1, rfl, rfl, rfl, h1, r1⟩ := trodAll_cons r0
  obtain ⟨v2, vs2, d2, ds2, p2, q2, rfl, rfl, rfl, h2, r2⟩ := trodAll_cons r1
  obtain ⟨v3, vs3, d3, ds3, p3, q3, rfl, rfl, rfl, h3, r3⟩ := trodAll_cons r2
  obtain ⟨v4, vs4, d4, ds4, p4, q4, rfl, rfl, rfl, h4, r4⟩ := trodAll_cons r3
  obtain ⟨rfl, rfl, rfl⟩ := trodAll_nil r4
  obtain rfl : args = #[v0, v1, v2, v3, v4] := by cases args; simp_all
  obtain ⟨rfl, rfl⟩ := trodVars_none hV
  have g0 := h0
  have lt0 : ∀ x ∈ p0, x.block < W.heap.size := by obtain ⟨m, hm⟩ := g0; exact DataW.trod_lt m _ _ _ hm
  obtain ⟨c0_0, c0_1, c0_2, y0_0, y0_1, y0_2, m0, hv0, k0_0, k0_1, k0_2⟩ := open_fields3 Try.underlying66 (by kernel_rfl) cells66 (hval 0 66 v0 rfl rfl) h0
  obtain ⟨a0_0, b0_0, _, w0_0⟩ := DataW.trod_int Try.underlying22 k0_0
  obtain rfl := List.cons.inj b0_0 |>.1
  obtain ⟨a0_1, b0_1, _, w0_1⟩ := DataW.trod_int Try.underlying22 k0_1
  obtain rfl := List.cons.inj b0_1 |>.1
  obtain ⟨A0_2, n0_2, l0_2, b0_2, R0_2, L0_2, w0_2⟩ := row_of_slice k0_2
  obtain rfl := List.cons.inj b0_2 |>.1
  subst hv0
  have g1 := h1
  have lt1 : ∀ x ∈ p1, x.block < W.heap.size := by obtain ⟨m, hm⟩ := g1; exact DataW.trod_lt m _ _ _ hm
  obtain ⟨a1, b1, _, _, w1⟩ := open_int Try.underlying22 (hval 1 22 v1 rfl rfl) h1
  subst b1
  have g2 := h2
  have lt2 : ∀ x ∈ p2, x.block < W.heap.size := by obtain ⟨m, hm⟩ := g2; exact DataW.trod_lt m _ _ _ hm
  obtain ⟨A2, n2, l2, b2, R2, L2, w2⟩ := row_of_arg (hval 2 33 v2 rfl rfl) h2
  subst b2
  have g3 := h3
  have lt3 : ∀ x ∈ p3, x.block < W.heap.size := by obtain ⟨m, hm⟩ := g3; exact DataW.trod_lt m _ _ _ hm
  obtain ⟨a3, b3, _, _, w3⟩ := open_int Try.underlying3 (hval 3 3 v3 rfl rfl) h3
  subst b3
  have g4 := h4
  have lt4 : ∀ x ∈ p4, x.block < W.heap.size := by obtain ⟨m, hm⟩ := g4; exact DataW.trod_lt m _ _ _ hm
  obtain ⟨a4, b4, _, _, w4⟩ := open_int Try.underlying22 (hval 4 22 v4 rfl rfl) h4
  subst b4
  clear hA0 hval0 hsz0 hsz
  refine (walk a0_0 a0_1 A0_2 n0_2 l0_2 a1 A2 n2 l2 a3 a4 W (u32b w0_0) (u32b w0_1) (u32b w1) (u32b w4) R0_2 L0_2 R2 L2 w0_2 w2).mono fun e W' ⟨he, bel⟩ => ?_
  subst he
  exact ⟨_, rfl, _, _, _, [], _, [], hW', trodAll_mk1 (shut_bool Try.underlying4 _), (trodAll_cons_mk (Below.trod laidOut (by kernel_rfl) (of_decide_eq_true (by kernel_rfl)) g0 bel lt0) (trodAll_cons_mk (Below.trod laidOut (by kernel_rfl) (of_decide_eq_true (by kernel_rfl)) g1 bel lt1) (trodAll_cons_mk (Below.trod laidOut (by kernel_rfl) (of_decide_eq_true (by kernel_rfl)) g2 bel lt2) (trodAll_cons_mk (Below.trod laidOut (by kernel_rfl) (of_decide_eq_true (by kernel_rfl)) g3 bel lt3) (trodAll_cons_mk (Below.trod laidOut (by kernel_rfl) (of_decide_eq_true (by kernel_rfl)) g4 bel lt4) trodAll_mk0))))), rfl, bel.frame _, fun h => by cases h⟩
theorem over : Rows.sackSaysRow.holds Try.pinned (OpenSpec.ofChange Rows.sackSaysSpec) :=
  OpenClaim.holds_of_wide 7 Try.f7 rfl rfl rfl rfl rfl rfl rfl ⟨rfl, rfl, rfl, rfl, rfl⟩ rfl rfl rfl rfl rfl (by kernel_rfl) Try.func7 (by kernel_rfl)
    (of_decide_eq_true (by kernel_rfl)) (by unfold Func.isWrapper; first | (rw [if_pos (by decide +kernel)]; kernel_rfl) | (rw [if_neg (by decide +kernel)]; exact ⟨rfl, rfl⟩))
    (fun os started H enc _ => lifted os started H enc)
theorem proved : Rows.SackSaysSaid := over
#print axioms proved
end Go.Proofs.Ytjiiejeldgkdiaa.sackSays
namespace Go.Proofs.Ytjiiejeldgkdiaa
/-- The row, under a short name, for the claim. -/
theorem sackSays_holds : Rows.SackSaysSaid := sackSays.proved
end Go.Proofs.Ytjiiejeldgkdiaa
