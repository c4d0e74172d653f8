/- Proved: an argument that is a slice of blocks, opened to a list of pairs of 32-bit numbers. No condition. -/
import Derived.Test.YtjiiejeldgkdiaaRows
import Derived.Test.YtjiiejeldgkdiaaSackW
import Derived.Deep.Slices
import Derived.Deep.Fields
import Derived.ChangeSame
set_option linter.unusedVariables false
set_option linter.unusedSimpArgs false
namespace Go.Proofs.Ytjiiejeldgkdiaa.OpenRow
open Go.ChangeShapes Go.WideShapes Go.Deep Go.RowKit Go.Proofs.YtjiiejeldgkdiaaW.PrintWords
section
variable {H : Type} {enc : TypeId × Value → H} {w : World} {base : Nat} {spare : Nat → Bool} {held : Bool}

theorem two_of {α : Type} {l : List α} (h : l.length = 2) : ∃ a b, l = [a, b] := by
  match l, h with
  | [a, b], _ => exact ⟨a, b, rfl⟩
theorem two_fields {P : Program} {t : TypeId} {f0 f1 : Field} {cs : List Value} {fuel : Nat} {x : DataW H × List MemPlace} (hs : P.underlying t = some (.struct #[f0, f1])) (hone : oneCellFields P #[f0, f1] = true) (hl : cs.length = 2)
    (h : DataW.trod enc P w base spare held fuel t cs = some x) : ∃ (v0 v1 : Value) (y0 y1 : DataW H × List MemPlace) (n : Nat), cs = [v0, v1] ∧ DataW.trod enc P w base spare held n f0.type [v0] = some y0 ∧ DataW.trod enc P w base spare held n f1.type [v1] = some y1 := by
  obtain ⟨ys, n', _, _, _, hyl, hf⟩ := DataW.trod_struct hs h
  obtain ⟨v0, v1, rfl⟩ := two_of hl
  obtain ⟨y0, y1, rfl⟩ := two_of (l := ys) hyl
  obtain ⟨o0, k0⟩ := hone_of hone 0 f0 rfl
  obtain ⟨o1, k1⟩ := hone_of hone 1 f1 rfl
  exact ⟨v0, v1, y0, y1, n', rfl, by simpa [o0, k0] using hf 0 f0 rfl, by simpa [o1, k1] using hf 1 f1 rfl⟩
theorem cells77 : Try.prog.cellsOf 77 = 2 := by kernel_rfl

theorem open_pairs {fuel : Nat} {cs : List Value} {x : DataW H × List MemPlace} (h : DataW.trod enc Try.prog w base spare held fuel 33 cs = some x) :
    ∃ (A : Option Addr) (c : Nat) (l : List (Int × Int)), cs = [.slice A l.length c] ∧ l.length ≤ c ∧ c ≤ maxLen ∧ (∀ p ∈ l, (Lit.int .u32 p.1).wf = true ∧ (Lit.int .u32 p.2).wf = true) ∧
      (0 < l.length → ∃ ad, A = some ad ∧ ∀ (j : Nat) (p : Int × Int), l[j]? = some p → w.cell? (ad.add (j * 2)) = some (.int .u32 p.1) ∧ w.cell? (ad.add (j * 2 + 1)) = some (.int .u32 p.2)) := by
  rcases open_slice Try.underlying33 h with ⟨hcs, _⟩ | ⟨a, len, cap, m, n, D, Pl, hcs, hb, hl, hm, hmm, hx, hi⟩
  · exact ⟨none, 0, [], hcs, by simp, by unfold maxLen; omega, by simp, by simp⟩
  · have hlm : len ≤ m := by rw [hmm]; split <;> omega
    have one : ∀ i, i < len → ∃ p : Int × Int, ((Lit.int .u32 p.1).wf = true ∧ (Lit.int .u32 p.2).wf = true) ∧ w.cell? (a.add (i * 2)) = some (.int .u32 p.1) ∧ w.cell? (a.add (i * 2 + 1)) = some (.int .u32 p.2) := by
      intro i hil
      obtain ⟨cs', hc, ht'⟩ := hi i (by omega)
      rw [cells77] at hc
      obtain ⟨_, hcl, hat⟩ := World.cells?_some hc
      obtain ⟨v0, v1, y0, y1, n', rfl, f0, f1⟩ := two_fields Try.underlying77 (by kernel_rfl) hcl ht'
      obtain ⟨p0, e0, _, w0⟩ := DataW.trod_int Try.underlying22 f0
      obtain ⟨p1, e1, _, w1⟩ := DataW.trod_int Try.underlying22 f1
      have c0 := hat 0 (by omega)
      have c1 := hat 1 (by omega)
      simp only [List.cons.injEq, and_true] at e0 e1
      subst e0 e1
      refine ⟨(p0, p1), ⟨w0, w1⟩, ?_, ?_⟩
      · rw [Go.Deep.add_add, Nat.add_zero] at c0
        simpa using c0
      · rw [Go.Deep.add_add] at c1
        simpa using c1
    have ⟨g, hg⟩ : ∃ g : Nat → Int × Int, ∀ i, i < len → ((Lit.int .u32 (g i).1).wf = true ∧ (Lit.int .u32 (g i).2).wf = true) ∧ w.cell? (a.add (i * 2)) = some (.int .u32 (g i).1) ∧ w.cell? (a.add (i * 2 + 1)) = some (.int .u32 (g i).2) := by
      refine ⟨fun i => if h : i < len then (one i h).choose else (0, 0), fun i h => ?_⟩
      simp only [h, dite_true]
      exact (one i h).choose_spec
    refine ⟨some a, cap, (List.range len).map g, ?_, by simpa using hl, hm, ?_, fun _ => ⟨a, rfl, ?_⟩⟩
    · simpa using hcs
    · intro p hp
      simp only [List.mem_map, List.mem_range] at hp
      obtain ⟨i, hi', rfl⟩ := hp
      exact (hg i hi').1
    · intro j p hp
      simp only [List.getElem?_map] at hp
      by_cases hj : j < len
      · rw [List.getElem?_range hj] at hp
        simp only [Option.map_some, Option.some.injEq] at hp
        subst hp
        exact (hg j hj).2
      · rw [List.getElem?_eq_none (by simpa using hj)] at hp
        simp at hp
end
end Go.Proofs.Ytjiiejeldgkdiaa.OpenRow
