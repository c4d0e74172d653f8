/- Proved: for every input CastPlays returns true, and each argument reads afterwards as it read before. No condition. -/
import Derived.Test.YtcllcjflgeiehaaRows
import Derived.Test.YtcllcjflgeiehaaBCastLaw
import Derived.Test.YtcllcjflgeiehaaBCastOpen
import Derived.WalkKit
import Derived.ProofKit
import Derived.OpenShut
import Derived.ShutString
import Derived.ChangeOld
import Derived.Below
import Derived.SizedLaws
import Derived.Lib.SmallJoins
import Derived.Deep.Slices
import Derived.Deep.Fields
import Derived.ChangeSame
namespace Go.Proofs.Ytcllcjflgeiehaa.castPlays
open Go.ChangeShapes Go.WideShapes Go.ChangeAt Go.RowKit Go.Joins Go.Deep Go.Proofs.YtcllcjflgeiehaaW.PrintWords Go.Proofs.Ytcllcjflgeiehaa.CastOpen
open Go.ChangeMaps (open_string shut_string)
set_option linter.unusedVariables false
set_option linter.unusedSimpArgs false
theorem own : ownKnob Try.prog.godebug = none := by kernel_rfl
theorem laidOut : laidOutB Try.prog = true := by kernel_rfl
theorem scal_row {α : Type} {encv : α → Value} {h1 : ∀ x, (encv x).oneCell' = true} {w : World} {x : Addr} {len : Nat} {zs : List α} (d : α) (hl : len ≤ zs.length) (hm : zs.length ≤ maxLen) (hc : ∀ i, i < zs.length → w.cell? (x.add i) = some (encv (zs.getD i d))) :
    (Kd.scalar encv h1).C w (some x) (zs.take len).length (zs.take len) := by
  have hl2 : (zs.take len).length = len := by rw [List.length_take]; omega
  have hmm : maxLen ≤ 9223372036854775807 := by unfold maxLen; decide
  refine Kd.C_of_reads (d := d) ⟨rfl, by omega, fun _ => ⟨x, rfl, fun j hj => ?_⟩⟩
  rw [hc j (by omega)]
  congr 2
  rw [List.getD_eq_getElem?_getD, List.getD_eq_getElem?_getD, List.getElem?_take, if_pos (by omega)]
theorem scal_none {α : Type} {encv : α → Value} {h1 : ∀ x, (encv x).oneCell' = true} {w : World} : (Kd.scalar encv h1).C w none ([] : List α).length [] := ⟨rfl, Nat.zero_le _, fun h => absurd h (Nat.lt_irrefl _)⟩
set_option maxRecDepth 100000 in
theorem ints_of_arg {H : Type} {enc : TypeId × Value → H} {w : World} {base b0 : Nat} {r : Reach} {held : Bool} {v : Value} {d : DataW H} {p : List MemPlace} (hv : Value.okWide Try.prog w r b0 23 v) (h : DataW.Trod enc Try.prog w base (fun _ => true) held 23 v d p) :
    ∃ (A : Option Addr) (n : Nat) (l : List Int), v = .slice A l.length n ∧ Kd.C (Kd.int .i64) w A l.length l ∧ l.length ≤ n ∧ ∀ z ∈ l, (Lit.int .i64 z).wf = true := by
  obtain ⟨A', l', c', rfl⟩ := okWide_slice Try.underlying23 hv
  obtain ⟨m, hf⟩ := h
  rcases open_ints Try.underlying23 Try.underlying3 (by kernel_rfl) hf with ⟨hcs, _⟩ | ⟨x, l, c, zs, hcs, _, hl, hm, hz, _, hcell, hwz⟩
  · simp [Value.cells] at hcs
    obtain ⟨rfl, rfl, rfl⟩ := hcs
    exact ⟨none, 0, [], rfl, scal_none, Nat.le_refl _, fun _ h => by cases h⟩
  · simp [Value.cells] at hcs
    obtain ⟨rfl, rfl, rfl⟩ := hcs
    have hz2 : zs.length = c' := by simpa using hz
    have hl2 : (zs.take l').length = l' := by rw [List.length_take]; omega
    exact ⟨some x, c', zs.take l', by rw [hl2], scal_row 0 (by omega) (by omega) hcell, by omega, fun z hz => hwz z (List.mem_of_mem_take hz)⟩
set_option maxHeartbeats 1000000 in
set_option maxRecDepth 100000 in
theorem lifted (os : Os) (started : os.Started) (H : Type) (enc : TypeId × Value → H) :
    ReturnsInHanded {} Try.checked os 4 .any (Rows.castPlaysSpec.pre6 enc Try.prog Try.f4 Rows.castPlaysRow.domain false) (Rows.castPlaysSpec.post enc Try.prog Try.f4 false true false false) := by
  refine returnsInHanded_of_change_sized (C := Try.checked) own started (by kernel_rfl) Try.func4
    (ChangeSpec.witness6 (enc := enc) (C := Try.checked) false ⟨#[], #[.int .i64 0, .slice none 0 0, .slice none 0 0, .slice none 0 0], []⟩ 8 (by kernel_rfl) (by kernel_rfl) (by kernel_rfl) (by kernel_rfl)) ?_
  intro W base args ds gs before hval0 hW hcnd hsz0 _
  have hsz : (DataW.weightsEach Try.prog (Try.f4.params.toList ++ Rows.castPlaysSpec.plain.varTypes Try.prog) (ds ++ gs)).all (· ≤ reachBytes) = true := hsz0
  have hval : ∀ (j : Nat) t v, Try.f4.params[j]? = some t → args[j]? = some v → Value.okWide Try.prog W .any base t v := hval0
  have hW' := hW
  obtain ⟨p, q, hA0, hV, rfl, hfz, hnd⟩ := hW
  have hA : DataW.TrodAll enc Try.prog W 0 (fun _ => true) true Try.f4.params.toList args.toList ds p := hA0
  rw [Try.params4] at hA hval hsz
  obtain ⟨v0, vs0, d0, ds0, p0, q0, hargs, rfl, rfl, h0, r0⟩ := trodAll_cons hA
  obtain ⟨v1, vs1, d1, ds1, p1, q1, rfl, rfl, rfl, h1, r1⟩ := trodAll_cons r0
  obtain ⟨v2, vs2, d2, ds2, p2, q2, rfl, rfl, rfl, h2, r2⟩ := trodAll_cons r1
  obtain ⟨v3, vs3, d3, ds3, p3, q3, rfl, rfl, rfl, h3, r3⟩ := trodAll_cons r2
  obtain ⟨rfl, rfl, rfl⟩ := trodAll_nil r3
  obtain rfl : args = #[v0, v1, v2, v3] := by cases args; simp_all
  obtain ⟨rfl, rfl⟩ := trodVars_none hV
  have g0 := h0
  have lt0 : ∀ x ∈ p0, x.block < W.heap.size := by obtain ⟨m, hm⟩ := g0; exact DataW.trod_lt m _ _ _ hm
  obtain ⟨a0, b0, _, _, w0⟩ := open_int Try.underlying3 (hval 0 3 v0 rfl rfl) h0
  subst b0
  have g1 := h1
  have lt1 : ∀ x ∈ p1, x.block < W.heap.size := by obtain ⟨m, hm⟩ := g1; exact DataW.trod_lt m _ _ _ hm
  obtain ⟨A1, n1, l1, b1, R1, L1, w1⟩ := ints_of_arg (hval 1 23 v1 rfl rfl) h1
  subst b1
  have g2 := h2
  have lt2 : ∀ x ∈ p2, x.block < W.heap.size := by obtain ⟨m, hm⟩ := g2; exact DataW.trod_lt m _ _ _ hm
  obtain ⟨A2, n2, l2, b2, R2, L2, w2⟩ := notes_of_arg (hval 2 48 v2 rfl rfl) h2
  subst b2
  have g3 := h3
  have lt3 : ∀ x ∈ p3, x.block < W.heap.size := by obtain ⟨m, hm⟩ := g3; exact DataW.trod_lt m _ _ _ hm
  obtain ⟨A3, n3, l3, b3, R3, L3, w3⟩ := ints_of_arg (hval 3 23 v3 rfl rfl) h3
  subst b3
  clear hA0 hval0 hsz0 hsz
  refine (PCastPlays.law a0 l1 l2 l3 A1 A2 A3 n1 n2 n3 W R1 R2 R3).mono fun e W' ⟨he, bel⟩ => ?_
  subst he
  exact ⟨_, rfl, _, _, _, [], _, [], hW', trodAll_mk1 (shut_bool Try.underlying4 _), (trodAll_cons_mk (Below.trod laidOut (by kernel_rfl) (of_decide_eq_true (by kernel_rfl)) g0 bel lt0) (trodAll_cons_mk (Below.trod laidOut (by kernel_rfl) (of_decide_eq_true (by kernel_rfl)) g1 bel lt1) (trodAll_cons_mk (Below.trod laidOut (by kernel_rfl) (of_decide_eq_true (by kernel_rfl)) g2 bel lt2) (trodAll_cons_mk (Below.trod laidOut (by kernel_rfl) (of_decide_eq_true (by kernel_rfl)) g3 bel lt3) trodAll_mk0)))), rfl, bel.frame _, fun h => by cases h⟩
theorem over : Rows.castPlaysRow.holds Try.pinned (OpenSpec.ofChange Rows.castPlaysSpec) :=
  OpenClaim.holds_of_wide 4 Try.f4 rfl rfl rfl rfl rfl rfl rfl ⟨rfl, rfl, rfl, rfl, rfl⟩ rfl rfl rfl rfl rfl (by kernel_rfl) Try.func4 (by kernel_rfl)
    (of_decide_eq_true (by kernel_rfl)) (by unfold Func.isWrapper; first | (rw [if_pos (by decide +kernel)]; kernel_rfl) | (rw [if_neg (by decide +kernel)]; exact ⟨rfl, rfl⟩))
    (fun os started H enc _ => lifted os started H enc)
theorem proved : Rows.CastPlaysSaid := over
#print axioms proved
end Go.Proofs.Ytcllcjflgeiehaa.castPlays
namespace Go.Proofs.Ytcllcjflgeiehaa
/-- The row, under a short name, for the claim. -/
theorem castPlays_holds : Rows.CastPlaysSaid := castPlays.proved
end Go.Proofs.Ytcllcjflgeiehaa
