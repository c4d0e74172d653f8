/- Proved: an argument that is a slice of notes, opened to a list. No condition. -/
import Derived.Test.YtcllcjflgeiehaaRows
import Derived.Test.YtcllcjflgeiehaaBCastX0
import Derived.Deep.Slices
import Derived.Deep.Fields
import Derived.ChangeSame
set_option linter.unusedVariables false
set_option linter.unusedSimpArgs false
namespace Go.Proofs.Ytcllcjflgeiehaa.CastOpen
open Go.ChangeShapes Go.WideShapes Go.Deep Go.RowKit Go.Proofs.YtcllcjflgeiehaaW.PrintWords Go.Proofs.Ytcllcjflgeiehaa.PCastPlays
section
variable {H : Type} {enc : TypeId × Value → H} {w : World} {base : Nat} {spare : Nat → Bool} {held : Bool}
theorem four_of {α : Type} {l : List α} (h : l.length = 4) : ∃ a b c d, l = [a, b, c, d] := by
  match l, h with
  | [a, b, c, d], _ => exact ⟨a, b, c, d, rfl⟩
theorem four_fields {P : Program} {t : TypeId} {f0 f1 f2 f3 : Field} {cs : List Value} {fuel : Nat} {x : DataW H × List MemPlace} (hs : P.underlying t = some (.struct #[f0, f1, f2, f3])) (hone : oneCellFields P #[f0, f1, f2, f3] = true) (hl : cs.length = 4)
    (h : DataW.trod enc P w base spare held fuel t cs = some x) : ∃ (v0 v1 v2 v3 : Value) (y0 y1 y2 y3 : DataW H × List MemPlace) (n : Nat), cs = [v0, v1, v2, v3] ∧ DataW.trod enc P w base spare held n f0.type [v0] = some y0 ∧ DataW.trod enc P w base spare held n f1.type [v1] = some y1 ∧ DataW.trod enc P w base spare held n f2.type [v2] = some y2 ∧ DataW.trod enc P w base spare held n f3.type [v3] = some y3 := by
  obtain ⟨ys, n', _, _, _, hyl, hf⟩ := DataW.trod_struct hs h
  obtain ⟨v0, v1, v2, v3, rfl⟩ := four_of hl
  obtain ⟨y0, y1, y2, y3, rfl⟩ := four_of (l := ys) hyl
  obtain ⟨o0, k0⟩ := hone_of hone 0 f0 rfl
  obtain ⟨o1, k1⟩ := hone_of hone 1 f1 rfl
  obtain ⟨o2, k2⟩ := hone_of hone 2 f2 rfl
  obtain ⟨o3, k3⟩ := hone_of hone 3 f3 rfl
  exact ⟨v0, v1, v2, v3, y0, y1, y2, y3, n', rfl, by simpa [o0, k0] using hf 0 f0 rfl, by simpa [o1, k1] using hf 1 f1 rfl, by simpa [o2, k2] using hf 2 f2 rfl, by simpa [o3, k3] using hf 3 f3 rfl⟩
theorem cells56 : Try.prog.cellsOf 56 = 4 := by kernel_rfl
theorem open_notes {fuel : Nat} {cs : List Value} {x : DataW H × List MemPlace} (h : DataW.trod enc Try.prog w base spare held fuel 48 cs = some x) :
    ∃ (A : Option Addr) (c : Nat) (l : List S56), cs = [.slice A l.length c] ∧ l.length ≤ c ∧ c ≤ maxLen ∧
      (0 < l.length → ∃ ad, A = some ad ∧ ∀ (j : Nat) (p : S56), l[j]? = some p → w.cell? (ad.add (j * 4)) = some (.int .i64 p.f0) ∧ w.cell? (ad.add (j * 4 + 1)) = some (.int .i64 p.f1) ∧ w.cell? (ad.add (j * 4 + 2)) = some (.int .i64 p.f2) ∧ w.cell? (ad.add (j * 4 + 3)) = some (.string p.f3)) := by
  rcases open_slice Try.underlying48 h with ⟨hcs, _⟩ | ⟨a, len, cap, m, n, D, Pl, hcs, hb, hl, hm, hmm, hx, hi⟩
  · exact ⟨none, 0, [], hcs, by simp, by unfold maxLen; omega, by simp⟩
  · have hlm : len ≤ m := by rw [hmm]; split <;> omega
    have one : ∀ i, i < len → ∃ p : S56, w.cell? (a.add (i * 4)) = some (.int .i64 p.f0) ∧ w.cell? (a.add (i * 4 + 1)) = some (.int .i64 p.f1) ∧ w.cell? (a.add (i * 4 + 2)) = some (.int .i64 p.f2) ∧ w.cell? (a.add (i * 4 + 3)) = some (.string p.f3) := by
      intro i hil
      obtain ⟨cs', hc, ht'⟩ := hi i (by omega)
      rw [cells56] at hc
      obtain ⟨_, hcl, hat⟩ := World.cells?_some hc
      obtain ⟨v0, v1, v2, v3, y0, y1, y2, y3, n', rfl, f0, f1, f2, f3⟩ := four_fields Try.underlying56 (by kernel_rfl) hcl ht'
      obtain ⟨p0, e0, _, w0⟩ := DataW.trod_int Try.underlying3 f0
      obtain ⟨p1, e1, _, w1⟩ := DataW.trod_int Try.underlying3 f1
      obtain ⟨p2, e2, _, w2⟩ := DataW.trod_int Try.underlying3 f2
      obtain ⟨p3, e3, _, w3⟩ := DataW.trod_string Try.underlying9 f3
      have c0 := hat 0 (by omega)
      have c1 := hat 1 (by omega)
      have c2 := hat 2 (by omega)
      have c3 := hat 3 (by omega)
      simp only [List.cons.injEq, and_true] at e0 e1 e2 e3
      subst e0 e1 e2 e3
      refine ⟨⟨p0, p1, p2, p3⟩, ?_, ?_, ?_, ?_⟩
      · rw [Go.Deep.add_add, Nat.add_zero] at c0
        simpa using c0
      · rw [Go.Deep.add_add] at c1
        simpa using c1
      · rw [Go.Deep.add_add] at c2
        simpa using c2
      · rw [Go.Deep.add_add] at c3
        simpa using c3
    have ⟨g, hg⟩ : ∃ g : Nat → S56, ∀ i, i < len → w.cell? (a.add (i * 4)) = some (.int .i64 (g i).f0) ∧ w.cell? (a.add (i * 4 + 1)) = some (.int .i64 (g i).f1) ∧ w.cell? (a.add (i * 4 + 2)) = some (.int .i64 (g i).f2) ∧ w.cell? (a.add (i * 4 + 3)) = some (.string (g i).f3) := by
      refine ⟨fun i => if h : i < len then (one i h).choose else z56, fun i h => ?_⟩
      simp only [h, dite_true]
      exact (one i h).choose_spec
    refine ⟨some a, cap, (List.range len).map g, ?_, by simpa using hl, hm, fun _ => ⟨a, rfl, ?_⟩⟩
    · simpa using hcs
    · intro j p hp
      simp only [List.getElem?_map] at hp
      by_cases hj : j < len
      · rw [List.getElem?_range hj] at hp
        simp only [Option.map_some, Option.some.injEq] at hp
        subst hp
        exact hg j hj
      · rw [List.getElem?_eq_none (by simpa using hj)] at hp
        simp at hp
set_option maxRecDepth 100000 in
theorem notes_of_arg {b0 : Nat} {r : Reach} {v : Value} {d : DataW H} {p : List MemPlace} (hv : Value.okWide Try.prog w r b0 48 v) (h : DataW.Trod enc Try.prog w base spare held 48 v d p) :
    ∃ (A : Option Addr) (n : Nat) (l : List S56), v = .slice A l.length n ∧ Kd.C k56 w A l.length l ∧ l.length ≤ n ∧ True := by
  obtain ⟨A', l', c', rfl⟩ := okWide_slice Try.underlying48 hv
  obtain ⟨m, hm⟩ := h
  obtain ⟨A, c, l, e, hl, hm2, hcell⟩ := open_notes (fuel := m) hm
  refine ⟨A, c, l, (List.cons.inj e).1, ⟨rfl, ?_, fun h0 => ?_⟩, hl, trivial⟩
  · have : maxLen ≤ 9223372036854775807 := by unfold maxLen; decide
    omega
  · obtain ⟨ad, rfl, hj⟩ := hcell h0
    refine ⟨ad, rfl, fun j p hp => ?_⟩
    obtain ⟨c0, c1, c2, c3⟩ := hj j p hp
    refine ⟨_, rfl, k56_mk w p, fun i u hu => ?_⟩
    match i, hu with
    | 0, hu => simp only [List.getElem?_cons_zero, Option.some.injEq] at hu; subst hu; exact c0
    | 1, hu => simp only [List.getElem?_cons_succ, List.getElem?_cons_zero, Option.some.injEq] at hu; subst hu; exact c1
    | 2, hu => simp only [List.getElem?_cons_succ, List.getElem?_cons_zero, Option.some.injEq] at hu; subst hu; exact c2
    | 3, hu => simp only [List.getElem?_cons_succ, List.getElem?_cons_zero, Option.some.injEq] at hu; subst hu; exact c3
end
end Go.Proofs.Ytcllcjflgeiehaa.CastOpen
