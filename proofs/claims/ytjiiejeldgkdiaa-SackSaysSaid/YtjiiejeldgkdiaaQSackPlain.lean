/- Proved: the values of the functions on scoreboards, as plain numbers and lists. Every lemma names its own bounds. -/
import Derived.Test.YtjiiejeldgkdiaaQSackN
import Derived.Test.YtjiiejeldgkdiaaQSackX8
import Derived.Test.YtjiiejeldgkdiaaQSackX9
import Derived.Test.YtjiiejeldgkdiaaQSackLost
import Derived.Test.YtjiiejeldgkdiaaQSackX10
set_option linter.unusedVariables false
set_option linter.unusedSimpArgs false
namespace Go.Proofs.Ytjiiejeldgkdiaa.Sack
open Go.RowKit Go.Proofs.Ytjiiejeldgkdiaa.PSackSays Go.Proofs.YtjiiejeldgkdiaaW.PrintWords Go.Proofs.YtjiiejeldgkdiaaW.PrintLast Go.Proofs.YtjiiejeldgkdiaaW.PrintMore

theorem w64 {n : Int} (h : -9223372036854775808 ≤ n ∧ n ≤ 9223372036854775807) : wrap64 n = n := by unfold wrap64; omega
theorem tm (n : Int) : Int.tmod n 4294967296 = if 0 ≤ n then n % 4294967296 else -(-n % 4294967296) := by
  by_cases h : 0 ≤ n
  · rw [if_pos h]; exact Int.tmod_eq_emod_of_nonneg h
  · rw [if_neg h]
    have e : Int.tmod (-(-n)) 4294967296 = -(Int.tmod (-n) 4294967296) := Int.neg_tmod _ _
    rw [Int.neg_neg] at e
    rw [e, Int.tmod_eq_emod_of_nonneg (by omega)]
theorem round_v (n : Int) (h : -9223372036854775808 ≤ n ∧ n ≤ 9223372036854775807) : patchbayref3_Round.f n = some (n % 4294967296) := by
  unfold patchbayref3_Round.f
  rw [tm]
  by_cases h0 : 0 ≤ n
  · simp only [h0, if_true]
    rw [if_neg (by omega)]
  · simp only [h0, if_false]
    by_cases h1 : -(-n % 4294967296) < 0
    · rw [if_pos h1]; congr 1; unfold wrap64; omega
    · rw [if_neg h1]; congr 1; omega
def sd (a b : Int) : Int := (a - b + 2147483648) % 4294967296 - 2147483648
def U32 (a : Int) : Prop := 0 ≤ a ∧ a < 4294967296
theorem sdiff_v (a b : Int) (ha : U32 a) (hb : U32 b) : seq_Diff.f a b = some (sd a b) := by
  unfold U32 at ha hb; unfold seq_Diff.f sd wrap64 wrap32; congr 1; omega
theorem rdiff_v (a b : Int) (ha : U32 a) (hb : U32 b) : patchbayref3_Diff.f a b = some (sd a b) := by
  unfold U32 at ha hb
  unfold patchbayref3_Diff.f
  have e : wrap64 (wrap64 a - wrap64 b) = a - b := by unfold wrap64; omega
  rw [e, round_v _ (by omega)]
  simp only [Option.bind_some, ge_iff_le]
  unfold sd wrap64
  split <;> (congr 1; omega)
def Wf (l : List S77) : Prop := ∀ b ∈ l, U32 b.f0 ∧ U32 b.f1
theorem rd_mem (l : List S77) (i : Nat) (h : i < l.length) : rd_T77 l i = l[i] := by
  unfold rd_T77; simp [List.getD, h]
def I64 (a : Int) : Prop := -9223372036854775808 ≤ a ∧ a ≤ 9223372036854775807

theorem same_l (l : List S77) (hl : l.length ≤ 1000000) (d : Nat) : ∀ (k i : Nat), l.length - i = d → i ≤ l.length → d < k → patchbayref3_SameBlocks.l0 k l l i = some true := by
  induction d with
  | zero =>
    intro k i hd hi hk
    obtain ⟨k, rfl⟩ : ∃ m, k = m + 1 := ⟨k - 1, by omega⟩
    simp only [patchbayref3_SameBlocks.l0]
    rw [if_neg (by omega)]
  | succ d ih =>
    intro k i hd hi hk
    obtain ⟨k, rfl⟩ : ∃ m, k = m + 1 := ⟨k - 1, by omega⟩
    simp only [patchbayref3_SameBlocks.l0]
    rw [if_pos (by omega), if_pos (by omega), if_pos (by omega), if_neg (by simp), show wrap64 ((i : Int) + 1) = ((i + 1 : Nat) : Int) from by unfold wrap64; omega]
    exact ih k (i + 1) (by omega) (by omega) (by omega)
theorem blocks_v (l : List S77) (hl : l.length ≤ 1000000) (k : Nat) (hk : l.length < k) : patchbayref3_SameBlocks.f k l l = some true := by
  unfold patchbayref3_SameBlocks.f
  have := same_l l hl l.length k 0 (by omega) (by omega) hk
  have h0 : patchbayref3_SameBlocks.l0 k l l 0 = some true := by simpa using this
  rw [if_pos rfl]
  exact h0
theorem score_v (a b : Int) (l : List S77) (hl : l.length ≤ 1000000) (k : Nat) (hk : l.length < k) : patchbayref3_SameScore.f k a b l a b l = some true := by
  unfold patchbayref3_SameScore.f
  rw [if_pos rfl, if_pos rfl, blocks_v l hl k hk]
  rfl

/-! Distances. -/
def D (u x : Int) : Int := (x - u) % 4294967296
theorem D_bd (u x : Int) : 0 ≤ D u x ∧ D u x < 4294967296 := by unfold D; omega
theorem dist_v (x u : Int) (hx : U32 x) (hu : U32 u) : patchbayref3_Dist.f x u = some (D u x) := by
  unfold patchbayref3_Dist.f
  unfold U32 at hx hu
  rw [w64 (n := x) (by omega), w64 (n := u) (by omega), w64 (n := x - u) (by omega), round_v _ (by omega)]
  rfl
theorem size_v (u n : Int) (l : List S77) : sack_size.f u n l = some (D u n) := rfl
theorem less_v (n u : Int) (hn : U32 n) (hu : U32 u) : seq_Less.f n u = some (decide (sd n u < 0)) := by
  unfold seq_Less.f
  rw [sdiff_v n u hn hu]
  rfl

/-! The error of a scoreboard. -/
def okl (u N : Int) : Int → List S77 → Bool
  | _, [] => true
  | last, b :: l => if D u b.f0 ≤ last then false else if D u b.f1 ≤ D u b.f0 then false else if D u b.f1 > N then false else okl u N (D u b.f1) l
def sE (u n : Int) (l : List S77) : Int := if l.length > 256 then 2 else if sd n u < 0 then 10 else if okl u (D u n) 0 l = true then 0 else 3
theorem drop_cons' (l : List S77) (i : Nat) (h : i < l.length) : l.drop i = rd_T77 l i :: l.drop (i + 1) := by
  rw [List.drop_eq_getElem_cons h, rd_mem l i h]
theorem wf_rd {l : List S77} (hw : Wf l) (i : Nat) (h : i < l.length) : U32 (rd_T77 l i).f0 ∧ U32 (rd_T77 l i).f1 := by
  rw [rd_mem l i h]; exact hw _ (List.getElem_mem h)
theorem pcheck_l (l : List S77) (hl : l.length ≤ 1000000) (u n : Int) (d : Nat) : ∀ (k i : Nat) (last : Int), l.length - i = d → i ≤ l.length → d < k →
    sack_Check.l0 k last l l.length i u n l = some (if okl u (D u n) last (l.drop i) = true then 0 else 3) := by
  induction d with
  | zero =>
    intro k i last hd hi hk
    obtain ⟨k, rfl⟩ : ∃ m, k = m + 1 := ⟨k - 1, by omega⟩
    rw [sack_Check.l0, if_neg (by omega), List.drop_eq_nil_of_le (by omega), okl, if_pos rfl]
  | succ d ih =>
    intro k i last hd hi hk
    obtain ⟨k, rfl⟩ : ∃ m, k = m + 1 := ⟨k - 1, by omega⟩
    rw [sack_Check.l0, if_pos (by omega), if_pos (by omega), if_pos (by omega), drop_cons' l i (by omega), okl]
    rw [show ((rd_T77 l i).f0 - u) % 4294967296 = D u (rd_T77 l i).f0 from rfl, show ((rd_T77 l i).f1 - u) % 4294967296 = D u (rd_T77 l i).f1 from rfl, size_v, Option.bind_some]
    by_cases h1 : D u (rd_T77 l i).f0 ≤ last
    · rw [if_pos h1, if_pos h1, if_neg (by simp)]
    · rw [if_neg h1, if_neg h1]
      by_cases h2 : D u (rd_T77 l i).f1 ≤ D u (rd_T77 l i).f0
      · rw [if_pos h2, if_pos h2, if_neg (by simp)]
      · rw [if_neg h2, if_neg h2]
        by_cases h3 : D u (rd_T77 l i).f1 > D u n
        · rw [if_pos h3, if_pos h3, if_neg (by simp)]
        · rw [if_neg h3, if_neg h3, show wrap64 ((i : Int) + 1) = ((i + 1 : Nat) : Int) from by unfold wrap64; omega]
          exact ih k (i + 1) _ (by omega) (by omega) (by omega)
theorem rcheck_l (l : List S77) (hl : l.length ≤ 1000000) (hw : Wf l) (u n : Int) (hu : U32 u) (hn : U32 n) (d : Nat) : ∀ (k i : Nat) (last : Int), l.length - i = d → i ≤ l.length → d < k →
    patchbayref3_ScoreFault.l0 k last i u n l = some (if okl u (D u n) last (l.drop i) = true then 0 else 3) := by
  induction d with
  | zero =>
    intro k i last hd hi hk
    obtain ⟨k, rfl⟩ : ∃ m, k = m + 1 := ⟨k - 1, by omega⟩
    rw [patchbayref3_ScoreFault.l0, if_neg (by omega), List.drop_eq_nil_of_le (by omega), okl, if_pos rfl]
  | succ d ih =>
    intro k i last hd hi hk
    obtain ⟨k, rfl⟩ : ∃ m, k = m + 1 := ⟨k - 1, by omega⟩
    obtain ⟨w0, w1⟩ := wf_rd hw i (by omega)
    rw [patchbayref3_ScoreFault.l0, if_pos (by omega), if_pos (by omega), dist_v _ _ w0 hu, Option.bind_some, dist_v _ _ w1 hu, Option.bind_some, dist_v _ _ hn hu, Option.bind_some, drop_cons' l i (by omega), okl]
    by_cases h1 : D u (rd_T77 l i).f0 ≤ last
    · rw [if_pos h1, if_pos h1, if_neg (by simp)]
    · rw [if_neg h1, if_neg h1]
      by_cases h2 : D u (rd_T77 l i).f1 ≤ D u (rd_T77 l i).f0
      · rw [if_pos h2, if_pos h2, if_neg (by simp)]
      · rw [if_neg h2, if_neg h2]
        by_cases h3 : D u (rd_T77 l i).f1 > D u n
        · rw [if_pos h3, if_pos h3, if_neg (by simp)]
        · rw [if_neg h3, if_neg h3, show wrap64 ((i : Int) + 1) = ((i + 1 : Nat) : Int) from by unfold wrap64; omega]
          exact ih k (i + 1) _ (by omega) (by omega) (by omega)
theorem pcheck_v (u n : Int) (l : List S77) (hu : U32 u) (hn : U32 n) (k : Nat) (hk : 300 ≤ k) : sack_Check.f k u n l = some (sE u n l) := by
  unfold sack_Check.f sE
  by_cases h : l.length > 256
  · rw [if_pos h, if_pos (by omega)]
  · rw [if_neg h, if_neg (by omega), less_v n u hn hu, Option.bind_some]
    by_cases h2 : sd n u < 0
    · rw [if_pos (decide_eq_true h2), if_pos h2]
    · rw [if_neg (by simpa using h2), if_neg h2]
      have := pcheck_l l (by omega) u n l.length k 0 0 (by omega) (by omega) (by omega)
      rw [List.drop_zero] at this
      exact this
theorem rcheck_v (u n : Int) (l : List S77) (hu : U32 u) (hn : U32 n) (hw : Wf l) (k : Nat) (hk : 300 ≤ k) : patchbayref3_ScoreFault.f k u n l = some (sE u n l) := by
  unfold patchbayref3_ScoreFault.f sE
  by_cases h : l.length > 256
  · rw [if_pos h, if_pos (by omega)]
  · rw [if_neg h, if_neg (by omega), rdiff_v n u hn hu, Option.bind_some]
    by_cases h2 : sd n u < 0
    · rw [if_pos h2, if_pos h2]
    · rw [if_neg h2, if_neg h2]
      have := rcheck_l l (by omega) hw u n hu hn l.length k 0 0 (by omega) (by omega) (by omega)
      rw [List.drop_zero] at this
      exact this

/-! Marks. -/
def good (u N : Int) (b : S77) (i : Int) : Bool := decide (D u b.f0 < D u b.f1 ∧ D u b.f1 ≤ N ∧ D u b.f0 ≤ i ∧ i < D u b.f1)
def mk (u N : Int) (l : List S77) : List Bool := (List.range N.toNat).map fun (i : Nat) => l.any fun b => good u N b (i : Int)
theorem mk_len (u N : Int) (l : List S77) : (mk u N l).length = N.toNat := by unfold mk; simp
def setr (x : List Bool) (a b : Int) : List Bool := (List.range x.length).map fun (i : Nat) => x.getD i false || decide (a ≤ (i : Int) ∧ (i : Int) < b)
theorem setr_none (x : List Bool) (a : Int) : setr x a a = x := by
  apply List.ext_getElem?
  intro i
  unfold setr
  rw [List.getElem?_map]
  by_cases h : i < x.length
  · rw [List.getElem?_range h, List.getElem?_eq_getElem h]
    simp [List.getD_eq_getElem?_getD, List.getElem?_eq_getElem h]
    omega
  · rw [List.getElem?_eq_none (by simpa using h), List.getElem?_eq_none (by simpa using h)]; rfl
theorem setr_step (x : List Bool) (a : Nat) (b : Int) (ha : a < x.length) (hb : (a : Int) < b) : setr (x.set a true) ((a + 1 : Nat) : Int) b = setr x a b := by
  unfold setr
  rw [List.length_set]
  apply List.map_congr_left
  intro i hi
  rw [List.mem_range] at hi
  rw [List.getD_eq_getElem?_getD, List.getD_eq_getElem?_getD, List.getElem?_set]
  by_cases h : a = i
  · subst h
    rw [if_pos rfl, if_pos hi]
    rw [show decide ((a : Int) ≤ (a : Int) ∧ (a : Int) < b) = true from decide_eq_true ⟨by omega, hb⟩]
    simp
  · rw [if_neg h]
    congr 1
    rw [decide_eq_decide]
    omega
theorem mk_add (u N : Int) (l : List S77) (b : S77) (h : D u b.f0 < D u b.f1 ∧ D u b.f1 ≤ N) : setr (mk u N l) (D u b.f0) (D u b.f1) = mk u N (l ++ [b]) := by
  unfold setr
  rw [mk_len]
  unfold mk
  apply List.map_congr_left
  intro i hi
  rw [List.mem_range] at hi
  rw [List.getD_eq_getElem?_getD, List.getElem?_map, List.getElem?_range hi]
  simp [List.any_append, good, h.1, h.2]
theorem mk_skip (u N : Int) (l : List S77) (b : S77) (h : ¬ (D u b.f0 < D u b.f1 ∧ D u b.f1 ≤ N)) : mk u N l = mk u N (l ++ [b]) := by
  unfold mk
  apply List.map_congr_left
  intro i hi
  have : good u N b i = false := by
    unfold good
    exact decide_eq_false (fun q => h ⟨q.1, q.2.1⟩)
  simp [List.any_append, this]

theorem marks_in (u n : Int) (held x1 : List S77) (N : Int) (j : Int) (b : Int) (d : Nat) : ∀ (k a : Nat) (x : List Bool), (b - a).toNat = d → (a : Int) ≤ b → b ≤ x.length → b ≤ 1000000 →
    patchbayref3_Marks.l1 (k + d + 1) x1 N x j b a u n held = patchbayref3_Marks.l0 k x1 N (setr x a b) (wrap64 (j + 1)) u n held := by
  induction d with
  | zero =>
    intro k a x hd ha hb h6
    obtain rfl : b = (a : Int) := by omega
    rw [patchbayref3_Marks.l1, if_neg (by omega), setr_none]
  | succ d ih =>
    intro k a x hd ha hb h6
    rw [show k + (d + 1) + 1 = (k + d + 1) + 1 from by omega, patchbayref3_Marks.l1, if_pos (by omega), if_pos (by omega), if_pos (by omega), Int.toNat_natCast, show wrap64 ((a : Int) + 1) = ((a + 1 : Nat) : Int) from by unfold wrap64; omega]
    rw [ih k (a + 1) _ (by omega) (by omega) (by rw [List.length_set]; exact hb) h6, setr_step x a b (by omega) (by omega)]
theorem rd_eq (l : List S77) (i : Nat) (b : S77) (h : l[i]? = some b) : rd_T77 l i = b := by
  obtain ⟨hi, e⟩ := List.getElem?_eq_some_iff.1 h
  rw [rd_mem l i hi, e]
set_option maxRecDepth 20000 in
theorem marks_l (held x1 : List S77) (u n : Int) (hu : U32 u) (hh : Wf held) (hx : Wf x1) (hl : held.length ≤ 300) (hl1 : x1.length ≤ 300) (hN : D u n ≤ 2000) :
    ∀ (rest pre : List S77) (k : Nat), pre ++ rest = held ++ x1 → rest.length * 2010 + 1 ≤ k →
      patchbayref3_Marks.l0 k x1 (D u n) (mk u (D u n) pre) pre.length u n held = some (mk u (D u n) (held ++ x1)) := by
  have hD := D_bd u n
  intro rest
  induction rest with
  | nil =>
    intro pre k hp hk
    obtain ⟨k, rfl⟩ : ∃ m, k = m + 1 := ⟨k - 1, by omega⟩
    rw [List.append_nil] at hp
    have hlen := congrArg List.length hp
    rw [List.length_append] at hlen
    rw [patchbayref3_Marks.l0, if_neg (by rw [w64 (by omega)]; omega), hp]
  | cons b r ih =>
    intro pre k hp hk
    rw [List.length_cons] at hk
    have hlen := congrArg List.length hp
    rw [List.length_append, List.length_append, List.length_cons] at hlen
    have hb : (held ++ x1)[pre.length]? = some b := by rw [← hp, List.getElem?_append_right (Nat.le_refl _), Nat.sub_self]; rfl
    obtain ⟨k, rfl⟩ : ∃ m, k = m + 3 := ⟨k - 3, by omega⟩
    have hk2 : r.length * 2010 + 2007 ≤ k := by rw [Nat.add_mul] at hk; omega
    clear hk
    generalize hq : r.length * 2010 = q at hk2 ih
    have ub : U32 b.f0 ∧ U32 b.f1 := by
      have hm : b ∈ held ++ x1 := List.mem_of_getElem? hb
      rcases List.mem_append.1 hm with h | h
      · exact hh b h
      · exact hx b h
    have hp' : (pre ++ [b]) ++ r = held ++ x1 := by rw [List.append_assoc]; exact hp
    have hj1 : patchbayref3_Marks.j1 (k + 2) x1 (D u n) (mk u (D u n) pre) pre.length u n held b.f0 b.f1 = some (mk u (D u n) (held ++ x1)) := by
      rw [patchbayref3_Marks.j1, dist_v _ _ ub.1 hu, Option.bind_some, dist_v _ _ ub.2 hu, Option.bind_some]
      have e1 : wrap64 ((pre.length : Int) + 1) = ((pre ++ [b]).length : Int) := by rw [List.length_append, List.length_singleton, w64 (by omega)]; rfl
      by_cases h1 : D u b.f0 ≥ D u b.f1
      · rw [if_pos h1, patchbayref3_Marks.j2, if_pos rfl, e1, mk_skip u (D u n) pre b (by omega)]
        exact ih (pre ++ [b]) k hp' (by omega)
      · rw [if_neg h1, patchbayref3_Marks.j2]
        by_cases h2 : D u b.f1 > D u n
        · rw [if_pos (decide_eq_true h2), e1, mk_skip u (D u n) pre b (by omega)]
          exact ih (pre ++ [b]) k hp' (by omega)
        · rw [if_neg (by simpa using h2)]
          have b0 := D_bd u b.f0
          have b1 := D_bd u b.f1
          have := marks_in u n held x1 (D u n) pre.length (D u b.f1) (D u b.f1 - D u b.f0).toNat (k - (D u b.f1 - D u b.f0).toNat - 1) (D u b.f0).toNat (mk u (D u n) pre) (by omega) (by omega) (by rw [mk_len]; omega) (by omega)
          rw [show k - (D u b.f1 - D u b.f0).toNat - 1 + (D u b.f1 - D u b.f0).toNat + 1 = k from by omega, show (((D u b.f0).toNat : Nat) : Int) = D u b.f0 from by omega] at this
          rw [this, e1, mk_add u (D u n) pre b ⟨by omega, by omega⟩]
          exact ih (pre ++ [b]) _ hp' (by omega)
    rw [patchbayref3_Marks.l0, if_pos (by rw [w64 (by omega)]; omega)]
    by_cases h0 : pre.length < held.length
    · rw [if_pos (by omega), if_pos (by omega)]
      have : rd_T77 held (pre.length : Nat) = b := rd_eq held pre.length b (by rw [← List.getElem?_append_left h0 (l₂ := x1)]; exact hb)
      rw [this]
      exact hj1
    · rw [if_neg (by omega), show wrap64 ((pre.length : Int) - (held.length : Int)) = ((pre.length - held.length : Nat) : Int) from by rw [w64 (by omega)]; omega, if_pos (by omega), if_pos (by omega)]
      have : rd_T77 x1 ((pre.length - held.length : Nat) : Int) = b := rd_eq x1 (pre.length - held.length) b (by rw [← List.getElem?_append_right (l₁ := held) (by omega)]; exact hb)
      rw [this]
      exact hj1
theorem marks_v (held x1 : List S77) (u n : Int) (hu : U32 u) (hn : U32 n) (hh : Wf held) (hx : Wf x1) (hl : held.length ≤ 300) (hl1 : x1.length ≤ 300) (hN : D u n ≤ 2000) (k : Nat) (hk : 1300000 ≤ k) :
    patchbayref3_Marks.f k u n held x1 = some (mk u (D u n) (held ++ x1)) := by
  have hD := D_bd u n
  unfold patchbayref3_Marks.f
  rw [dist_v n u hn hu, Option.bind_some, if_pos (by omega), if_pos (by omega)]
  have e : List.replicate (D u n).toNat false = mk u (D u n) [] := by
    unfold mk
    apply List.ext_getElem?
    intro i
    rw [List.getElem?_map, List.getElem?_replicate]
    by_cases h : i < (D u n).toNat
    · rw [if_pos h, List.getElem?_range h]; rfl
    · rw [if_neg h, List.getElem?_eq_none (by simpa using h)]; rfl
  rw [e]
  exact marks_l held x1 u n hu hh hx hl hl1 hN (held ++ x1) [] k rfl (by rw [List.length_append]; omega)

/-! Spans, and the runs among marks. -/
def Sep : Int → List S105 → Prop
  | _, [] => True
  | lo, x :: r => lo ≤ x.f0 ∧ x.f0 < x.f1 ∧ Sep (x.f1 + 1) r
theorem Sep.mono {a b : Int} (h : b ≤ a) : ∀ {l : List S105}, Sep a l → Sep b l
  | [], _ => trivial
  | x :: r, hs => ⟨by have := hs.1; omega, hs.2.1, hs.2.2⟩
def inn (ps : List S105) (i : Int) : Prop := ∃ x ∈ ps, x.f0 ≤ i ∧ i < x.f1
theorem Sep.lo {a : Int} : ∀ {l : List S105}, Sep a l → ∀ i, inn l i → a ≤ i
  | [], _, i, h => by obtain ⟨x, hx, _⟩ := h; simp at hx
  | x :: r, hs, i, h => by
    obtain ⟨y, hy, h1, h2⟩ := h
    rcases List.mem_cons.1 hy with rfl | hy
    · have := hs.1; omega
    · have := Sep.lo hs.2.2 i ⟨y, hy, h1, h2⟩
      have := hs.1
      have := hs.2.1
      omega
theorem inn_cons (x : S105) (r : List S105) (i : Int) : inn (x :: r) i ↔ (x.f0 ≤ i ∧ i < x.f1) ∨ inn r i := by
  unfold inn
  constructor
  · rintro ⟨y, hy, h⟩
    rcases List.mem_cons.1 hy with rfl | hy
    · exact .inl h
    · exact .inr ⟨y, hy, h⟩
  · rintro (h | ⟨y, hy, h⟩)
    · exact ⟨x, List.mem_cons_self .., h⟩
    · exact ⟨y, List.mem_cons_of_mem _ hy, h⟩
theorem inn_nil (i : Int) : ¬ inn [] i := by rintro ⟨x, hx, _⟩; simp at hx
def bk (u : Int) (x : S105) : S77 := ⟨(u + x.f0) % 4294967296, (u + x.f1) % 4294967296⟩
def isAt (ms : List Bool) (is : Bool) (i : Int) : Prop := (rdOf false ms i == is) = true

theorem run_end (ms : List Bool) (is : Bool) (u dd : Int) (hu : U32 u) (hn : ms.length ≤ 2000) (acc : List S77) (ha : acc.length ≤ 4000) (i : Nat) (e : Nat) (hi : i < 3000) (he : e ≤ ms.length) (hend : e < ms.length → ¬ isAt ms is e) (d : Nat) :
    ∀ (k j : Nat), e - j = d → j ≤ e → (∀ t : Nat, j ≤ t → t < e → isAt ms is t) →
      patchbayref3_Ranges.l1 (k + d + 1) u ms dd is acc i j = patchbayref3_Ranges.l0 k u ms dd is (acc ++ [bk u ⟨i, e⟩]) ((i + 1 : Nat) : Int) := by
  unfold U32 at hu
  induction d with
  | zero =>
    intro k j hd hj hall
    obtain rfl : j = e := by omega
    rw [patchbayref3_Ranges.l1]
    rw [w64 (n := u) (by omega), w64 (n := u + (i : Int)) (by omega), w64 (n := u + (j : Int)) (by omega), round_v _ (by omega), round_v _ (by omega)]
    simp only [Option.bind_some]
    rw [show wrap64 ((i : Int) + 1) = ((i + 1 : Nat) : Int) from by unfold wrap64; omega]
    rw [show (u + (i : Int)) % 4294967296 % 4294967296 = (u + (i : Int)) % 4294967296 from by omega, show (u + (j : Int)) % 4294967296 % 4294967296 = (u + (j : Int)) % 4294967296 from by omega]
    by_cases h : j < ms.length
    · rw [if_pos (by omega), if_pos (by omega), if_neg (show ¬ (rdOf false ms (j : Int) == is) = true from hend h), if_pos (by omega)]
      rfl
    · rw [if_neg (by omega), if_pos (by omega)]
      rfl
  | succ d ih =>
    intro k j hd hj hall
    have hP : isAt ms is j := hall j (Nat.le_refl _) (by omega)
    rw [show k + (d + 1) + 1 = (k + d + 1) + 1 from by omega, patchbayref3_Ranges.l1, if_pos (by omega), if_pos (by omega), if_pos (show (rdOf false ms (j : Int) == is) = true from hP), show wrap64 ((j : Int) + 1) = ((j + 1 : Nat) : Int) from by unfold wrap64; omega]
    exact ih k (j + 1) (by omega) (by omega) (fun t h1 h2 => hall t (by omega) h2)

set_option maxRecDepth 20000 in
theorem ranges_l (ms : List Bool) (is : Bool) (u : Int) (dd : Nat) (hu : U32 u) (hn : ms.length ≤ 2000) (m : Nat) :
    ∀ (k i : Nat) (e : Int) (rem : List S105) (acc : List S77), ms.length - i = m → dd ≤ i → i ≤ ms.length → m * 2010 + 1 ≤ k → acc.length ≤ i →
      (dd < i → (isAt ms is ((i : Int) - 1) ↔ (i : Int) ≤ e)) → (i = dd → e < i) → (∀ j : Nat, i ≤ j → j < ms.length → (isAt ms is j ↔ ((j : Int) < e ∨ inn rem j))) → Sep i rem → Sep (e + 1) rem → (∀ x ∈ rem, x.f1 ≤ ms.length) →
      patchbayref3_Ranges.l0 k u ms dd is acc i = some (acc ++ rem.map (bk u)) := by
  induction m with
  | zero =>
    intro k i e rem acc hm hdi hi hk ha hA hB hC hD1 hD2 hE
    obtain ⟨k, rfl⟩ : ∃ q, k = q + 1 := ⟨k - 1, by omega⟩
    rw [patchbayref3_Ranges.l0, if_neg (by omega)]
    have : rem = [] := by
      cases rem with
      | nil => rfl
      | cons x r =>
        have h1 := hE x (List.mem_cons_self ..)
        have h2 := hD1.1
        have h3 := hD1.2.1
        omega
    subst this
    simp
  | succ m ih =>
    intro k i e rem acc hm hdi hi hk ha hA hB hC hD1 hD2 hE
    have hil : i < ms.length := by omega
    obtain ⟨k, rfl⟩ : ∃ q, k = q + 2 := ⟨k - 2, by omega⟩
    have hk2 : m * 2010 + 2008 ≤ k := by rw [Nat.succ_mul] at hk; omega
    clear hk
    have hw : wrap64 ((i : Int) + 1) = ((i + 1 : Nat) : Int) := by unfold wrap64; omega
    have hw2 : wrap64 ((i : Int) - 1) = (i : Int) - 1 := by unfold wrap64; omega
    have hCi := hC i (Nat.le_refl _) hil
    by_cases hs : ∃ x r, rem = x :: r ∧ x.f0 = (i : Int)
    · obtain ⟨x, r, rfl, hx0⟩ := hs
      have hx1 := hD1.2.1
      have hx2 := hE x (List.mem_cons_self ..)
      have hlt : e < (i : Int) := by have := hD2.1; omega
      have hPi : isAt ms is i := hCi.2 (.inr ((inn_cons x r i).2 (.inl ⟨by omega, by omega⟩)))
      have hE1 : (x.f1.toNat : Int) = x.f1 := by omega
      have hend : x.f1.toNat < ms.length → ¬ isAt ms is (x.f1.toNat : Int) := by
        intro hlt2 hP
        rcases (hC x.f1.toNat (by omega) hlt2).1 hP with h | h
        · omega
        · rcases (inn_cons x r _).1 h with h | h
          · omega
          · have := Sep.lo hD1.2.2 _ h
            omega
      have hall : ∀ t : Nat, i ≤ t → t < x.f1.toNat → isAt ms is t := fun t h1 h2 => (hC t h1 (by omega)).2 (.inr ((inn_cons x r t).2 (.inl ⟨by omega, by omega⟩)))
      have hrun := run_end ms is u dd hu hn acc (by omega) i x.f1.toNat (by omega) (by omega) hend (x.f1.toNat - i) (k - (x.f1.toNat - i) - 1) i rfl (by omega) hall
      rw [show k - (x.f1.toNat - i) - 1 + (x.f1.toNat - i) + 1 = k from by omega] at hrun
      have hrest := ih (k - (x.f1.toNat - i) - 1) (i + 1) x.f1 r (acc ++ [bk u ⟨i, x.f1.toNat⟩]) (by omega) (by omega) (by omega) (by omega) (by rw [List.length_append, List.length_singleton]; omega)
        (fun _ => ⟨fun _ => by omega, fun _ => by rw [show (((i + 1 : Nat) : Int) - 1) = (i : Int) from by omega]; exact hPi⟩) (fun h => by omega)
        (fun j h1 h2 => by
          rw [hC j (by omega) h2, inn_cons]
          constructor
          · rintro (h | h | h)
            · omega
            · exact .inl h.2
            · exact .inr h
          · rintro (h | h)
            · exact .inr (.inl ⟨by omega, h⟩)
            · exact .inr (.inr h))
        (Sep.mono (by omega) hD1.2.2) hD1.2.2 (fun y hy => hE y (List.mem_cons_of_mem _ hy))
      have hj1 : patchbayref3_Ranges.j1 (k + 1) u ms dd is acc i false = some (acc ++ (x :: r).map (bk u)) := by
        rw [patchbayref3_Ranges.j1, if_neg (by decide), hrun, hrest, List.append_assoc, List.map_cons]
        have : (⟨(i : Int), (x.f1.toNat : Int)⟩ : S105) = x := by rw [hE1, ← hx0]
        rw [this]
        rfl
      rw [patchbayref3_Ranges.l0, if_pos (by omega), if_pos (by omega), if_neg (by unfold isAt at hPi; simpa using hPi)]
      by_cases hd : dd < i
      · rw [if_pos (by omega), hw2, if_pos (by omega), if_pos (by omega)]
        have : (rdOf false ms ((i : Int) - 1) == is) = false := by
          have := mt (hA hd).1 (by omega)
          unfold isAt at this
          simpa using this
        rw [this]
        exact hj1
      · rw [if_neg (by omega)]
        exact hj1
    · have hnin : ¬ inn rem i := by
        rintro hin
        cases rem with
        | nil => exact inn_nil _ hin
        | cons x r =>
          rcases (inn_cons x r _).1 hin with h | h
          · have := hD1.1
            exact hs ⟨x, r, rfl, by omega⟩
          · have := Sep.lo hD1.2.2 _ h
            have := hD1.1
            have := hD1.2.1
            omega
      have hPi : isAt ms is i ↔ (i : Int) < e := by
        rw [hCi]
        exact ⟨fun h => h.resolve_right hnin, .inl⟩
      have hD1' : Sep ((i + 1 : Nat) : Int) rem := by
        cases rem with
        | nil => trivial
        | cons x r =>
          refine ⟨?_, hD1.2.1, hD1.2.2⟩
          have h1 := hD1.1
          have h2 : x.f0 ≠ (i : Int) := fun h => hs ⟨x, r, rfl, h⟩
          omega
      have hrest := ih k (i + 1) e rem acc (by omega) (by omega) (by omega) (by omega) (by omega)
        (fun _ => by rw [show (((i + 1 : Nat) : Int) - 1) = (i : Int) from by omega, hPi]; omega) (fun h => by omega) (fun j h1 h2 => hC j (by omega) h2) hD1' hD2 hE
      have hj1 : patchbayref3_Ranges.j1 (k + 1) u ms dd is acc i true = some (acc ++ rem.map (bk u)) := by
        rw [patchbayref3_Ranges.j1, if_pos rfl, hw, hrest]
      rw [patchbayref3_Ranges.l0, if_pos (by omega), if_pos (by omega)]
      by_cases hP : isAt ms is i
      · rw [if_neg (by unfold isAt at hP; simpa using hP)]
        have hlt := hPi.1 hP
        have hd : dd < i := by
          rcases Nat.lt_or_ge dd i with h | h
          · exact h
          · have := hB (by omega); omega
        have hp : (rdOf false ms ((i : Int) - 1) == is) = true := (hA hd).2 (by omega)
        rw [if_pos (by omega), hw2, if_pos (by omega), if_pos (by omega), hp]
        exact hj1
      · rw [if_pos (by unfold isAt at hP; simpa using hP)]
        exact hj1
theorem ranges_v (ms : List Bool) (is : Bool) (u : Int) (dd : Nat) (hu : U32 u) (hn : ms.length ≤ 2000) (ps : List S105) (hd : dd ≤ ms.length) (hC : ∀ j : Nat, dd ≤ j → j < ms.length → (isAt ms is j ↔ inn ps j)) (hS : Sep dd ps) (hE : ∀ x ∈ ps, x.f1 ≤ ms.length) (k : Nat) (hk : 5000000 ≤ k) :
    patchbayref3_Ranges.f k u ms dd is = some (ps.map (bk u)) := by
  unfold patchbayref3_Ranges.f
  have := ranges_l ms is u dd hu hn (ms.length - dd) k dd ((dd : Int) - 1) ps [] rfl (Nat.le_refl _) hd (by omega) (by simp) (fun h => by omega) (fun _ => by omega)
    (fun j h1 h2 => by rw [hC j h1 h2]; exact ⟨.inr, fun h => h.resolve_left (by omega)⟩) hS (by rw [show (dd : Int) - 1 + 1 = dd from by omega]; exact hS) hE
  simpa using this

/-! The program's spans. -/
def wth : List S105 → S105 → List S105
  | [], x => [x]
  | y :: r, x => if y.f1 < x.f0 then y :: wth r x else if x.f1 < y.f0 then x :: y :: r else wth r ⟨mn x.f0 y.f0, mx x.f1 y.f1⟩
theorem wth_len : ∀ (l : List S105) (x : S105), (wth l x).length ≤ l.length + 1
  | [], x => by simp [wth]
  | y :: r, x => by
    rw [wth]
    split
    · have := wth_len r x; simp only [List.length_cons]; omega
    · split
      · simp
      · have := wth_len r ⟨mn x.f0 y.f0, mx x.f1 y.f1⟩; simp only [List.length_cons]; omega
theorem mn_def (a b : Int) : mn a b = if b < a then b else a := rfl
theorem mx_def (a b : Int) : mx a b = if a < b then b else a := rfl
theorem wth_sep : ∀ (l : List S105) (x : S105) (lo : Int), Sep lo l → lo ≤ x.f0 → x.f0 < x.f1 → Sep lo (wth l x)
  | [], x, lo, h, h1, h2 => ⟨h1, h2, trivial⟩
  | y :: r, x, lo, h, h1, h2 => by
    rw [wth]
    have a := h.1
    have b := h.2.1
    split
    · exact ⟨h.1, h.2.1, wth_sep r x _ h.2.2 (by omega) h2⟩
    · split
      · exact ⟨h1, h2, by omega, h.2.1, h.2.2⟩
      · refine wth_sep r _ lo (Sep.mono (by omega) h.2.2) ?_ ?_
        · show lo ≤ mn x.f0 y.f0
          rw [mn_def]; split <;> omega
        · show mn x.f0 y.f0 < mx x.f1 y.f1
          rw [mn_def, mx_def]; split <;> split <;> omega
theorem wth_inn : ∀ (l : List S105) (x : S105) (lo : Int), Sep lo l → x.f0 < x.f1 → ∀ i, inn (wth l x) i ↔ (inn l i ∨ (x.f0 ≤ i ∧ i < x.f1))
  | [], x, lo, h, h2, i => by
    rw [wth, inn_cons]
    constructor
    · rintro (h | h)
      · exact .inr h
      · exact absurd h (inn_nil i)
    · rintro (h | h)
      · exact absurd h (inn_nil i)
      · exact .inl h
  | y :: r, x, lo, h, h2, i => by
    have b := h.2.1
    rw [wth]
    split
    · rw [inn_cons, wth_inn r x _ h.2.2 h2 i, inn_cons, or_assoc]
    · split
      · rw [inn_cons, or_comm]
      · rename_i h3 h4
        rw [wth_inn r _ _ h.2.2 (by show mn x.f0 y.f0 < mx x.f1 y.f1; rw [mn_def, mx_def]; split <;> split <;> omega) i, inn_cons]
        have e : (mn x.f0 y.f0 ≤ i ∧ i < mx x.f1 y.f1) ↔ ((y.f0 ≤ i ∧ i < y.f1) ∨ (x.f0 ≤ i ∧ i < x.f1)) := by
          rw [mn_def, mx_def]; split <;> split <;> omega
        show (inn r i ∨ (mn x.f0 y.f0 ≤ i ∧ i < mx x.f1 y.f1)) ↔ _
        rw [e]
        constructor
        · rintro (h | h | h)
          · exact .inl (.inr h)
          · exact .inl (.inl h)
          · exact .inr h
        · rintro ((h | h) | h)
          · exact .inr (.inl h)
          · exact .inl h
          · exact .inr (.inr h)
theorem wth_top : ∀ (l : List S105) (x : S105) (n : Int), (∀ y ∈ l, y.f1 ≤ n) → x.f1 ≤ n → ∀ y ∈ wth l x, y.f1 ≤ n
  | [], x, n, _, h2 => fun y hy => by rw [wth, List.mem_singleton] at hy; subst hy; exact h2
  | z :: r, x, n, h1, h2 => fun y hy => by
    have hz := h1 z (List.mem_cons_self ..)
    have hr : ∀ y ∈ r, y.f1 ≤ n := fun y hy => h1 y (List.mem_cons_of_mem _ hy)
    rw [wth] at hy
    split at hy
    · rcases List.mem_cons.1 hy with rfl | hy
      · exact hz
      · exact wth_top r x n hr h2 y hy
    · split at hy
      · rcases List.mem_cons.1 hy with rfl | hy
        · exact h2
        · exact h1 y hy
      · refine wth_top r _ n hr ?_ y hy
        show mx x.f1 z.f1 ≤ n
        rw [mx_def]; split <;> omega
theorem rd105 (l : List S105) (i : Nat) (h : i < l.length) : rd_T105 l i = l[i] := by
  unfold rd_T105; simp [List.getD_eq_getElem?_getD, List.getElem?_eq_getElem h]
theorem with_l (l : List S105) (hl : l.length ≤ 1000) (d : Nat) : ∀ (k i : Nat) (out : List S105) (a b : Int), l.length - i = d → i ≤ l.length → d < k → out.length ≤ 1000 + i →
    sack_with.l0 k l out l l.length i a b = some (out ++ wth (l.drop i) ⟨a, b⟩) := by
  induction d with
  | zero =>
    intro k i out a b hd hi hk ho
    obtain ⟨k, rfl⟩ : ∃ m, k = m + 1 := ⟨k - 1, by omega⟩
    rw [sack_with.l0, if_neg (by omega), if_pos (by omega), List.drop_eq_nil_of_le (by omega), wth]
  | succ d ih =>
    intro k i out a b hd hi hk ho
    obtain ⟨k, rfl⟩ : ∃ m, k = m + 1 := ⟨k - 1, by omega⟩
    have hil : i < l.length := by omega
    have hw : wrap64 ((i : Int) + 1) = ((i + 1 : Nat) : Int) := by unfold wrap64; omega
    rw [sack_with.l0, if_pos (by omega), if_pos (by omega), if_pos (by omega), rd105 l i hil, List.drop_eq_getElem_cons hil, wth, hw]
    by_cases h1 : (l[i]).f1 < a
    · rw [if_pos h1, if_pos (show (l[i]).f1 < (⟨a, b⟩ : S105).f0 from h1), if_pos (by omega), ih k (i + 1) _ a b (by omega) (by omega) (by omega) (by rw [List.length_append, List.length_singleton]; omega), List.append_assoc]
      rfl
    · rw [if_neg h1, if_neg (show ¬ (l[i]).f1 < (⟨a, b⟩ : S105).f0 from h1)]
      by_cases h2 : b < (l[i]).f0
      · rw [if_pos h2, if_pos (show (⟨a, b⟩ : S105).f1 < (l[i]).f0 from h2), if_pos (by omega), Option.bind_some, if_pos (by omega), Option.bind_some, Int.toNat_natCast, if_pos (by rw [List.length_append, List.length_singleton, List.length_drop]; omega), List.append_assoc, List.drop_eq_getElem_cons hil]
        rfl
      · rw [if_neg h2, if_neg (show ¬ (⟨a, b⟩ : S105).f1 < (l[i]).f0 from h2)]
        exact ih k (i + 1) out _ _ (by omega) (by omega) (by omega) (by omega)
theorem with_v (l : List S105) (hl : l.length ≤ 1000) (a b : Int) (k : Nat) (hk : 2000 ≤ k) : sack_with.f k l a b = some (wth l ⟨a, b⟩) := by
  unfold sack_with.f
  have := with_l l hl l.length k 0 [] a b (by omega) (by omega) (by omega) (by simp)
  simpa using this

/-! Add. -/
def put (u N done : Int) (all : List S105) (b : S77) : List S105 := if D u b.f0 < D u b.f1 ∧ D u b.f1 ≤ N ∧ D u b.f1 > done then wth all ⟨mx (D u b.f0) done, D u b.f1⟩ else all
theorem put_len (u N done : Int) (all : List S105) (b : S77) : (put u N done all b).length ≤ all.length + 1 := by
  unfold put; split
  · exact wth_len _ _
  · omega
def Spans (u N done : Int) (all : List S105) (bs : List S77) : Prop := Sep done all ∧ (∀ x ∈ all, x.f1 ≤ N) ∧ ∀ i : Int, done ≤ i → (inn all i ↔ ∃ b ∈ bs, good u N b i = true)
theorem put_spans (u N done : Int) (all : List S105) (bs : List S77) (b : S77) (h : Spans u N done all bs) : Spans u N done (put u N done all b) (bs ++ [b]) := by
  obtain ⟨h1, h2, h3⟩ := h
  have hex : ∀ i, (∃ c ∈ bs ++ [b], good u N c i = true) ↔ ((∃ c ∈ bs, good u N c i = true) ∨ good u N b i = true) := by
    intro i
    constructor
    · rintro ⟨c, hc, hg⟩
      rcases List.mem_append.1 hc with hc | hc
      · exact .inl ⟨c, hc, hg⟩
      · rw [List.mem_singleton] at hc; subst hc; exact .inr hg
    · rintro (⟨c, hc, hg⟩ | hg)
      · exact ⟨c, List.mem_append_left _ hc, hg⟩
      · exact ⟨b, List.mem_append_right _ (List.mem_singleton.2 rfl), hg⟩
  unfold put
  split
  · rename_i hc
    obtain ⟨c1, c2, c3⟩ := hc
    have hm : (mx (D u b.f0) done = D u b.f0 ∧ done ≤ D u b.f0) ∨ (mx (D u b.f0) done = done ∧ D u b.f0 < done) := by rw [mx_def]; split <;> omega
    have hlt : mx (D u b.f0) done < D u b.f1 := by omega
    refine ⟨wth_sep _ _ _ h1 (by show done ≤ mx (D u b.f0) done; omega) hlt, wth_top _ _ _ h2 c2, fun i hi => ?_⟩
    rw [wth_inn all _ done h1 hlt i, h3 i hi, hex]
    have : (mx (D u b.f0) done ≤ i ∧ i < D u b.f1) ↔ good u N b i = true := by
      unfold good
      rw [decide_eq_true_iff]
      omega
    show (_ ∨ (mx (D u b.f0) done ≤ i ∧ i < D u b.f1)) ↔ _
    rw [this]
  · rename_i hc
    refine ⟨h1, h2, fun i hi => ?_⟩
    rw [h3 i hi, hex]
    refine ⟨.inl, fun h => h.resolve_right ?_⟩
    unfold good
    rw [decide_eq_true_iff]
    intro q
    exact hc ⟨by omega, by omega, by omega⟩
theorem add_l (held x2 : List S77) (u n ack done : Int) (hl : held.length ≤ 300) (hl1 : x2.length ≤ 300) :
    ∀ (rest pre : List S77) (all : List S105) (k : Nat), pre ++ rest = held ++ x2 → all.length ≤ pre.length → 3000 ≤ k →
      sack_Add.l0 (k + 2 * rest.length + 1) ack x2 done all ((held.length + x2.length : Nat) : Int) pre.length u n held = sack_Add.l1 k done (rest.foldl (put u (D u n) done) all) ((rest.foldl (put u (D u n) done) all).length : Int) 0 u n held ack n [] := by
  intro rest
  induction rest with
  | nil =>
    intro pre all k hp ha hk
    rw [List.append_nil] at hp
    have hlen := congrArg List.length hp
    rw [List.length_append] at hlen
    rw [sack_Add.l0, if_neg (by omega)]
    rfl
  | cons b r ih =>
    intro pre all k hp ha hk
    have hlen := congrArg List.length hp
    rw [List.length_append, List.length_append, List.length_cons] at hlen
    have hb : (held ++ x2)[pre.length]? = some b := by rw [← hp, List.getElem?_append_right (Nat.le_refl _), Nat.sub_self]; rfl
    have hp' : (pre ++ [b]) ++ r = held ++ x2 := by rw [List.append_assoc]; exact hp
    rw [List.length_cons, show k + 2 * (r.length + 1) + 1 = (k + 2 * r.length + 1) + 1 + 1 from by omega, List.foldl_cons]
    have hj1 : sack_Add.j1 (k + 2 * r.length + 1 + 1) ack x2 done all ((held.length + x2.length : Nat) : Int) pre.length u n held b.f0 b.f1 = sack_Add.l1 k done (r.foldl (put u (D u n) done) (put u (D u n) done all b)) ((r.foldl (put u (D u n) done) (put u (D u n) done all b)).length : Int) 0 u n held ack n [] := by
      have e1 : wrap64 ((pre.length : Int) + 1) = ((pre ++ [b]).length : Int) := by rw [List.length_append, List.length_singleton, w64 (by omega)]; rfl
      have hput := put_len u (D u n) done all b
      have hnext := ih (pre ++ [b]) (put u (D u n) done all b) k hp' (by rw [List.length_append, List.length_singleton]; omega) hk
      rw [sack_Add.j1, show (b.f0 - u) % 4294967296 = D u b.f0 from rfl, show (b.f1 - u) % 4294967296 = D u b.f1 from rfl, size_v, Option.bind_some, e1]
      by_cases h1 : D u b.f0 < D u b.f1
      · rw [if_pos h1]
        by_cases h2 : D u b.f1 ≤ D u n
        · rw [if_pos h2]
          by_cases h3 : D u b.f1 > done
          · rw [if_pos h3, with_v all (by omega) _ _ _ (by omega), Option.bind_some]
            unfold put at hnext ⊢
            rw [if_pos ⟨h1, h2, h3⟩] at hnext ⊢
            exact hnext
          · rw [if_neg h3]
            unfold put at hnext ⊢
            rw [if_neg (fun q => h3 q.2.2)] at hnext ⊢
            exact hnext
        · rw [if_neg h2]
          unfold put at hnext ⊢
          rw [if_neg (fun q => h2 q.2.1)] at hnext ⊢
          exact hnext
      · rw [if_neg h1]
        unfold put at hnext ⊢
        rw [if_neg (fun q => h1 q.1)] at hnext ⊢
        exact hnext
    rw [sack_Add.l0, if_pos (by omega)]
    by_cases h0 : pre.length < held.length
    · rw [if_pos (by omega), if_pos (by omega)]
      have : rd_T77 held (pre.length : Nat) = b := rd_eq held pre.length b (by rw [← List.getElem?_append_left h0 (l₂ := x2)]; exact hb)
      rw [this]
      exact hj1
    · rw [if_neg (by omega), show wrap64 ((pre.length : Int) - (held.length : Int)) = ((pre.length - held.length : Nat) : Int) from by rw [w64 (by omega)]; omega, if_pos (by omega), if_pos (by omega)]
      have : rd_T77 x2 ((pre.length - held.length : Nat) : Int) = b := rd_eq x2 (pre.length - held.length) b (by rw [← List.getElem?_append_right (l₁ := held) (by omega)]; exact hb)
      rw [this]
      exact hj1
def outl (u done : Int) (all : List S105) : List S77 := (all.filter fun x => decide (x.f0 > done)).map (bk u)
theorem add_o (all : List S105) (hl : all.length ≤ 1000) (u n ack done a b : Int) (held : List S77) (d : Nat) : ∀ (k i : Nat) (out : List S77), all.length - i = d → i ≤ all.length → d < k → out.length ≤ i →
    sack_Add.l1 k done all all.length i u n held a b out = some (if (out ++ outl u done (all.drop i)).length > 256 then (0, 0, [], 5) else (a, b, out ++ outl u done (all.drop i), 0)) := by
  induction d with
  | zero =>
    intro k i out hd hi hk ho
    obtain ⟨k, rfl⟩ : ∃ m, k = m + 1 := ⟨k - 1, by omega⟩
    rw [sack_Add.l1, if_neg (by omega), List.drop_eq_nil_of_le (by omega)]
    simp only [outl, List.filter_nil, List.map_nil, List.append_nil]
    by_cases h : out.length > 256
    · rw [if_pos h, if_pos (by omega)]
    · rw [if_neg h, if_neg (by omega)]
  | succ d ih =>
    intro k i out hd hi hk ho
    obtain ⟨k, rfl⟩ : ∃ m, k = m + 1 := ⟨k - 1, by omega⟩
    have hil : i < all.length := by omega
    have hw : wrap64 ((i : Int) + 1) = ((i + 1 : Nat) : Int) := by unfold wrap64; omega
    rw [sack_Add.l1, if_pos (by omega), if_pos (by omega), if_pos (by omega), rd105 all i hil, List.drop_eq_getElem_cons hil, hw]
    by_cases h1 : (all[i]).f0 > done
    · rw [if_pos h1]
      unfold seq_Add.f
      rw [Option.bind_some, Option.bind_some, if_pos (by omega), ih k (i + 1) _ (by omega) (by omega) (by omega) (by rw [List.length_append, List.length_singleton]; omega)]
      have e : outl u done (all[i] :: all.drop (i + 1)) = bk u all[i] :: outl u done (all.drop (i + 1)) := by
        unfold outl
        rw [List.filter_cons_of_pos (by simpa using h1), List.map_cons]
      have e2 : (⟨(u + (all[i]).f0 % 4294967296) % 4294967296, (u + (all[i]).f1 % 4294967296) % 4294967296⟩ : S77) = bk u all[i] := by
        unfold bk
        rw [show (u + (all[i]).f0 % 4294967296) % 4294967296 = (u + (all[i]).f0) % 4294967296 from by omega, show (u + (all[i]).f1 % 4294967296) % 4294967296 = (u + (all[i]).f1) % 4294967296 from by omega]
      rw [e, e2, List.append_assoc]
      rfl
    · rw [if_neg h1, ih k (i + 1) _ (by omega) (by omega) (by omega) (by omega)]
      have e : outl u done (all[i] :: all.drop (i + 1)) = outl u done (all.drop (i + 1)) := by
        unfold outl
        rw [List.filter_cons_of_neg (by simpa using h1)]
      rw [e]
def allOf (u n done : Int) (bs : List S77) : List S105 := bs.foldl (put u (D u n) done) []
theorem allOf_len (u n done : Int) : ∀ (bs : List S77) (all : List S105), (bs.foldl (put u (D u n) done) all).length ≤ all.length + bs.length
  | [], all => by simp
  | b :: r, all => by
    rw [List.foldl_cons]
    have h1 := allOf_len u n done r (put u (D u n) done all b)
    have h2 := put_len u (D u n) done all b
    rw [List.length_cons]; omega
theorem allOf_spans (u n done : Int) : ∀ (bs pre : List S77) (all : List S105), Spans u (D u n) done all pre → Spans u (D u n) done (bs.foldl (put u (D u n) done) all) (pre ++ bs)
  | [], pre, all, h => by rw [List.append_nil]; exact h
  | b :: r, pre, all, h => by
    have := allOf_spans u n done r (pre ++ [b]) (put u (D u n) done all b) (put_spans u (D u n) done all pre b h)
    rw [List.append_assoc] at this
    exact this
def addR (u n : Int) (held : List S77) (ack : Int) (l2 : List S77) : Int × Int × List S77 × Int :=
  if sE u n held = 0 then (if l2.length > 3 then (0, 0, [], 2) else if D u ack > D u n then (0, 0, [], 1) else
    if (outl u (D u ack) (allOf u n (D u ack) (held ++ l2))).length > 256 then (0, 0, [], 5) else (ack, n, outl u (D u ack) (allOf u n (D u ack) (held ++ l2)), 0))
  else (0, 0, [], sE u n held)
theorem sE_len {u n : Int} {l : List S77} (h : sE u n l = 0) : l.length ≤ 256 := by
  unfold sE at h
  split at h
  · omega
  · omega
theorem padd_v (u n : Int) (held : List S77) (ack : Int) (l2 : List S77) (hu : U32 u) (hn : U32 n) (k : Nat) (hk : 10000 ≤ k) : sack_Add.f k u n held ack l2 = some (addR u n held ack l2) := by
  unfold sack_Add.f addR
  rw [pcheck_v u n held hu hn k (by omega), Option.bind_some]
  by_cases h0 : sE u n held = 0
  · rw [if_pos h0, if_pos h0]
    have hl := sE_len h0
    by_cases h1 : l2.length > 3
    · rw [if_pos h1, if_pos (by omega)]
    · rw [if_neg h1, if_neg (by omega), size_v, Option.bind_some, show (ack - u) % 4294967296 = D u ack from rfl]
      by_cases h2 : D u ack > D u n
      · rw [if_pos h2, if_pos h2]
      · rw [if_neg h2, if_neg h2, show wrap64 ((held.length : Int) + (l2.length : Int)) = ((held.length + l2.length : Nat) : Int) from by rw [w64 (by omega)]; omega]
        have ha := allOf_len u n (D u ack) (held ++ l2) []
        rw [List.length_append, List.length_nil] at ha
        have h3 := add_l held l2 u n ack (D u ack) (by omega) (by omega) (held ++ l2) [] [] (k - 2 * (held ++ l2).length - 1) rfl (by simp) (by rw [List.length_append]; omega)
        rw [show k - 2 * (held ++ l2).length - 1 + 2 * (held ++ l2).length + 1 = k from by rw [List.length_append]; omega] at h3
        have h4 := add_o (allOf u n (D u ack) (held ++ l2)) (by unfold allOf; omega) u n ack (D u ack) ack n held _ (k - 2 * (held ++ l2).length - 1) 0 [] rfl (by omega) (by rw [List.length_append]; unfold allOf; omega) (by simp)
        rw [List.drop_zero, List.nil_append] at h4
        exact h3.trans h4
  · rw [if_neg h0, if_neg h0]
theorem mk_at (u N : Int) (bs : List S77) (j : Nat) (hj : (j : Int) < N) : isAt (mk u N bs) true j ↔ ∃ b ∈ bs, good u N b j = true := by
  unfold isAt rdOf mk
  rw [List.getD_eq_getElem?_getD, Int.toNat_natCast, List.getElem?_map, List.getElem?_range (by omega)]
  simp
theorem outl_all (u done : Int) : ∀ (r : List S105), Sep (done + 1) r → outl u done r = r.map (bk u)
  | [], _ => rfl
  | x :: r, h => by
    have h1 := h.1
    have h2 := h.2.1
    have := outl_all u done r (Sep.mono (by omega) h.2.2)
    unfold outl at this ⊢
    rw [List.filter_cons_of_pos (by simp; omega), List.map_cons, List.map_cons, this]
theorem spans_nil (u N done : Int) : Spans u N done [] [] := ⟨trivial, fun x hx => by simp at hx, fun i _ => ⟨fun h => absurd h (inn_nil i), fun ⟨b, hb, _⟩ => by simp at hb⟩⟩
theorem radd_v (u n : Int) (held : List S77) (ack : Int) (l2 : List S77) (hu : U32 u) (hn : U32 n) (ha : U32 ack) (hh : Wf held) (hx : Wf l2) (hN : sE u n held = 0 → D u n ≤ 2000) (k : Nat) (hk : 6000000 ≤ k) : patchbayref3_ScoreAdd.f k u n held ack l2 = some (addR u n held ack l2) := by
  unfold patchbayref3_ScoreAdd.f addR
  rw [rcheck_v u n held hu hn hh k (by omega), Option.bind_some]
  by_cases h0 : sE u n held = 0
  · rw [if_pos h0, if_pos h0]
    have hl := sE_len h0
    have hN2 := hN h0
    have dn := D_bd u n
    have da := D_bd u ack
    by_cases h1 : l2.length > 3
    · rw [if_pos h1, if_pos (by omega)]
    · rw [if_neg h1, if_neg (by omega), dist_v ack u ha hu, Option.bind_some, dist_v n u hn hu, Option.bind_some]
      by_cases h2 : D u ack > D u n
      · rw [if_pos h2, if_pos h2]
      · rw [if_neg h2, if_neg h2, marks_v held l2 u n hu hn hh hx (by omega) (by omega) hN2 k (by omega), Option.bind_some]
        have hsp := allOf_spans u n (D u ack) (held ++ l2) [] [] (spans_nil u (D u n) (D u ack))
        rw [List.nil_append] at hsp
        have hr := ranges_v (mk u (D u n) (held ++ l2)) true u (D u ack).toNat hu (by rw [mk_len]; omega) (allOf u n (D u ack) (held ++ l2)) (by rw [mk_len]; omega)
          (fun j h3 h4 => by
            rw [mk_len] at h4
            rw [mk_at u (D u n) (held ++ l2) j (by omega)]
            exact (hsp.2.2 j (by omega)).symm)
          (by rw [show (((D u ack).toNat : Nat) : Int) = D u ack from by omega]; exact hsp.1) (fun x hx => by rw [mk_len]; have := hsp.2.1 x hx; omega) k (by omega)
        rw [show (((D u ack).toNat : Nat) : Int) = D u ack from by omega] at hr
        rw [hr, Option.bind_some]
        obtain ⟨k, rfl⟩ : ∃ m, k = m + 1 := ⟨k - 1, by omega⟩
        have hs := hsp.1
        unfold allOf at hs ⊢
        generalize hg : (held ++ l2).foldl (put u (D u n) (D u ack)) [] = al at *
        have htop := hsp.2.1
        clear hr hsp hg
        cases al with
        | nil =>
          rw [if_neg (by simp), patchbayref3_ScoreAdd.j0, if_neg (by decide), if_neg (by simp), if_neg (by simp [outl])]
          rfl
        | cons x r =>
          have s0 := hs.1
          have s1 := hs.2.1
          have s2 := htop x (List.mem_cons_self ..)
          unfold U32 at hu ha
          have hrd : rd_T77 (List.map (bk u) (x :: r)) 0 = bk u x := rfl
          rw [if_pos (by simp), if_pos (by simp), hrd, patchbayref3_ScoreAdd.j0]
          by_cases he : x.f0 = D u ack
          · have hf : ((bk u x).f0 == ack) = true := by
              rw [beq_iff_eq]
              show (u + x.f0) % 4294967296 = ack
              rw [he]; unfold D; omega
            have ho : outl u (D u ack) (x :: r) = r.map (bk u) := by
              rw [← outl_all u (D u ack) r (Sep.mono (by omega) hs.2.2)]
              unfold outl
              rw [List.filter_cons_of_neg (by simp; omega)]
            rw [hf, if_pos rfl, if_pos (by rw [List.length_map, List.length_cons]; omega), Option.bind_some, ho]
            have hdr : (List.map (bk u) (x :: r)).drop (1 : Int).toNat = r.map (bk u) := rfl
            rw [hdr]
            by_cases hl2 : (r.map (bk u)).length > 256
            · rw [if_pos hl2, if_pos (by omega)]
            · rw [if_neg hl2, if_neg (by omega)]
          · have hf : ((bk u x).f0 == ack) = false := by
              rw [beq_eq_false_iff_ne]
              show (u + x.f0) % 4294967296 ≠ ack
              intro q
              apply he
              rw [← q]; unfold D; omega
            have ho : outl u (D u ack) (x :: r) = (x :: r).map (bk u) := outl_all u (D u ack) (x :: r) ⟨by omega, hs.2.1, hs.2.2⟩
            rw [hf, if_neg (by decide), ho]
            by_cases hl2 : ((x :: r).map (bk u)).length > 256
            · rw [if_pos hl2, if_pos (by omega)]
            · rw [if_neg hl2, if_neg (by omega)]
  · rw [if_neg h0, if_neg h0]

/-! Holes. -/
def hol (frm : Int) : List S77 → List S77
  | [] => []
  | b :: r => ⟨frm, b.f0⟩ :: hol b.f1 r
def gaps (u lo : Int) : List S77 → List S105
  | [] => []
  | b :: r => ⟨lo, D u b.f0⟩ :: gaps u (D u b.f1) r
def lastT (u lo : Int) : List S77 → Int
  | [] => lo
  | b :: r => lastT u (D u b.f1) r
theorem okl_cons {u N last : Int} {b : S77} {l : List S77} (h : okl u N last (b :: l) = true) : last < D u b.f0 ∧ D u b.f0 < D u b.f1 ∧ D u b.f1 ≤ N ∧ okl u N (D u b.f1) l = true := by
  rw [okl] at h
  split at h
  · exact absurd h (by decide)
  · split at h
    · exact absurd h (by decide)
    · split at h
      · exact absurd h (by decide)
      · exact ⟨by omega, by omega, by omega, h⟩
theorem lastT_le (u N : Int) : ∀ (l : List S77) (lo : Int), okl u N lo l = true → lo ≤ N → lo ≤ lastT u lo l ∧ lastT u lo l ≤ N
  | [], lo, _, h => ⟨by rw [lastT]; exact Int.le_refl _, by rw [lastT]; exact h⟩
  | b :: r, lo, h, h2 => by
    obtain ⟨a, c, d, e⟩ := okl_cons h
    have := lastT_le u N r (D u b.f1) e d
    rw [lastT]; omega
theorem gaps_sep (u N : Int) : ∀ (l : List S77) (lo : Int), okl u N lo l = true → Sep lo (gaps u lo l)
  | [], lo, _ => trivial
  | b :: r, lo, h => by
    obtain ⟨a, c, d, e⟩ := okl_cons h
    exact ⟨Int.le_refl _, a, Sep.mono (by show D u b.f0 + 1 ≤ D u b.f1; omega) (gaps_sep u N r (D u b.f1) e)⟩
theorem gaps_top (u N : Int) : ∀ (l : List S77) (lo : Int), okl u N lo l = true → lo ≤ N → ∀ x ∈ gaps u lo l, x.f1 ≤ lastT u lo l
  | [], lo, _, _ => fun x hx => by simp [gaps] at hx
  | b :: r, lo, h, _ => fun x hx => by
    obtain ⟨a, c, d, e⟩ := okl_cons h
    rw [gaps] at hx
    rw [lastT]
    rcases List.mem_cons.1 hx with rfl | hx
    · have := (lastT_le u N r (D u b.f1) e d).1
      show D u b.f0 ≤ _
      omega
    · exact gaps_top u N r (D u b.f1) e d x hx
theorem good_lo (u N : Int) : ∀ (l : List S77) (lo : Int), okl u N lo l = true → ∀ i, (∃ b ∈ l, good u N b i = true) → lo < i
  | [], lo, _, i, h => by obtain ⟨b, hb, _⟩ := h; simp at hb
  | c :: r, lo, h, i, hg => by
    obtain ⟨a, e, d, f⟩ := okl_cons h
    obtain ⟨b, hb, hg⟩ := hg
    rcases List.mem_cons.1 hb with rfl | hb
    · unfold good at hg; rw [decide_eq_true_iff] at hg; omega
    · have := good_lo u N r (D u c.f1) f i ⟨b, hb, hg⟩
      omega
theorem gaps_inn (u N : Int) : ∀ (l : List S77) (lo : Int), okl u N lo l = true → ∀ i, lo ≤ i → i < lastT u lo l → (inn (gaps u lo l) i ↔ ¬ ∃ b ∈ l, good u N b i = true)
  | [], lo, _, i, h1, h2 => by rw [lastT] at h2; omega
  | b :: r, lo, h, i, h1, h2 => by
    obtain ⟨a, c, d, e⟩ := okl_cons h
    rw [lastT] at h2
    rw [gaps, inn_cons]
    have hex : (∃ x ∈ b :: r, good u N x i = true) ↔ (good u N b i = true ∨ ∃ x ∈ r, good u N x i = true) := by
      constructor
      · rintro ⟨x, hx, hg⟩
        rcases List.mem_cons.1 hx with rfl | hx
        · exact .inl hg
        · exact .inr ⟨x, hx, hg⟩
      · rintro (hg | ⟨x, hx, hg⟩)
        · exact ⟨b, List.mem_cons_self .., hg⟩
        · exact ⟨x, List.mem_cons_of_mem _ hx, hg⟩
    rw [hex]
    have hgb : good u N b i = true ↔ (D u b.f0 ≤ i ∧ i < D u b.f1) := by
      unfold good; rw [decide_eq_true_iff]; omega
    rw [hgb]
    by_cases hi : i < D u b.f1
    · have hr : ¬ ∃ x ∈ r, good u N x i = true := fun q => by have := good_lo u N r (D u b.f1) e i q; omega
      have hg : ¬ inn (gaps u (D u b.f1) r) i := fun q => by have := Sep.lo (gaps_sep u N r (D u b.f1) e) i q; omega
      constructor
      · rintro (q | q)
        · have q1 : i < D u b.f0 := q.2
          rintro (z | z)
          · omega
          · exact hr z
        · exact absurd q hg
      · intro q
        refine .inl ⟨h1, ?_⟩
        show i < D u b.f0
        rcases Int.lt_or_le i (D u b.f0) with z | z
        · exact z
        · exact absurd (.inl ⟨z, hi⟩) q
    · rw [gaps_inn u N r (D u b.f1) e i (by omega) h2]
      constructor
      · rintro (q | q)
        · have q1 : i < D u b.f0 := q.2
          omega
        · rintro (z | z)
          · omega
          · exact q z
      · intro q
        exact .inr (fun z => q (.inr z))
theorem add_D (u x : Int) (hx : U32 x) : (u + D u x) % 4294967296 = x := by unfold U32 at hx; unfold D; omega
theorem bk_gaps (u : Int) : ∀ (l : List S77) (lo frm : Int), frm = (u + lo) % 4294967296 → Wf l → (gaps u lo l).map (bk u) = hol frm l
  | [], lo, frm, _, _ => rfl
  | b :: r, lo, frm, h, hw => by
    have hb := hw b (List.mem_cons_self ..)
    rw [gaps, hol, List.map_cons, bk_gaps u r (D u b.f1) b.f1 (add_D u b.f1 hb.2).symm (fun x hx => hw x (List.mem_cons_of_mem _ hx))]
    have : bk u ⟨lo, D u b.f0⟩ = ⟨frm, b.f0⟩ := by
      show (⟨(u + lo) % 4294967296, (u + D u b.f0) % 4294967296⟩ : S77) = _
      rw [add_D u b.f0 hb.1, ← h]
    rw [this]
theorem pholes_l (l : List S77) (hl : l.length ≤ 1000) (d : Nat) : ∀ (k i : Nat) (out : List S77) (frm : Int), l.length - i = d → i ≤ l.length → d < k → out.length ≤ i →
    sack_Holes.l0 k out frm l l.length i = some (out ++ hol frm (l.drop i), 0) := by
  induction d with
  | zero =>
    intro k i out frm hd hi hk ho
    obtain ⟨k, rfl⟩ : ∃ m, k = m + 1 := ⟨k - 1, by omega⟩
    rw [sack_Holes.l0, if_neg (by omega), List.drop_eq_nil_of_le (by omega), hol, List.append_nil]
  | succ d ih =>
    intro k i out frm hd hi hk ho
    obtain ⟨k, rfl⟩ : ∃ m, k = m + 1 := ⟨k - 1, by omega⟩
    rw [sack_Holes.l0, if_pos (by omega), if_pos (by omega), if_pos (by omega), if_pos (by omega), drop_cons' l i (by omega), hol, show wrap64 ((i : Int) + 1) = ((i + 1 : Nat) : Int) from by unfold wrap64; omega]
    rw [ih k (i + 1) _ _ (by omega) (by omega) (by omega) (by rw [List.length_append, List.length_singleton]; omega), List.append_assoc]
    rfl
theorem pholes_v (u n : Int) (held : List S77) (hu : U32 u) (hn : U32 n) (k : Nat) (hk : 300 ≤ k) : sack_Holes.f k u n held = some (if sE u n held = 0 then hol u held else [], sE u n held) := by
  unfold sack_Holes.f
  rw [pcheck_v u n held hu hn k hk, Option.bind_some]
  by_cases h0 : sE u n held = 0
  · have hl := sE_len h0
    rw [if_pos h0, if_pos h0, h0]
    have := pholes_l held (by omega) held.length k 0 [] u rfl (by omega) (by omega) (by simp)
    rw [List.drop_zero, List.nil_append] at this
    exact this
  · rw [if_neg h0, if_neg h0]
theorem lastT_last (u : Int) : ∀ (l : List S77) (lo : Int), l ≠ [] → lastT u lo l = D u (rd_T77 l ((l.length - 1 : Nat) : Int)).f1
  | [], _, h => absurd rfl h
  | [b], lo, _ => rfl
  | b :: c :: r, lo, _ => by
    rw [lastT, lastT_last u (c :: r) (D u b.f1) (by simp)]
    congr 2
theorem mk_take_at (u N : Int) (bs : List S77) (t : Nat) (j : Nat) (hj : j < t) (hN : (j : Int) < N) : isAt ((mk u N bs).take t) false j ↔ ¬ ∃ b ∈ bs, good u N b j = true := by
  have h := mk_at u N bs j hN
  unfold isAt rdOf at h ⊢
  rw [List.getD_eq_getElem?_getD, Int.toNat_natCast] at h ⊢
  rw [List.getElem?_take_of_lt hj, ← h]
  cases ((mk u N bs)[j]?.getD false) <;> simp
theorem okl_lastpos {u N : Int} {l : List S77} (h : okl u N 0 l = true) (hN : 0 ≤ N) : 0 ≤ lastT u 0 l ∧ lastT u 0 l ≤ N := lastT_le u N l 0 h hN
theorem sE_okl {u n : Int} {l : List S77} (h : sE u n l = 0) : okl u (D u n) 0 l = true := by
  unfold sE at h
  split at h
  · omega
  · split at h
    · omega
    · split at h
      · assumption
      · omega
theorem rholes_v (u n : Int) (held : List S77) (hu : U32 u) (hn : U32 n) (hh : Wf held) (h0 : sE u n held = 0) (hN : D u n ≤ 2000) (k : Nat) (hk : 6000000 ≤ k) : patchbayref3_Holes.f k u n held = some (hol u held) := by
  have hl := sE_len h0
  have hok := sE_okl h0
  have dn := D_bd u n
  unfold patchbayref3_Holes.f
  by_cases he : held = []
  · subst he
    rw [if_pos (by simp)]; rfl
  · have hpos : 0 < held.length := List.length_pos_iff.2 he
    rw [if_neg (by omega), marks_v held [] u n hu hn hh (fun x hx => by simp at hx) (by omega) (by simp) hN k (by omega), Option.bind_some, List.append_nil]
    rw [show wrap64 ((held.length : Int) - 1) = ((held.length - 1 : Nat) : Int) from by rw [w64 (by omega)]; omega, if_pos (by omega), if_pos (by omega)]
    have hwf := wf_rd hh (held.length - 1) (by omega)
    rw [dist_v _ _ hwf.2 hu, Option.bind_some, ← lastT_last u held 0 he]
    have hT := okl_lastpos hok (by omega)
    rw [if_pos hT.1, if_pos (by rw [mk_len]; omega)]
    have htl : ((mk u (D u n) held).take (lastT u 0 held).toNat).length = (lastT u 0 held).toNat := by rw [List.length_take, mk_len]; omega
    have hr := ranges_v ((mk u (D u n) held).take (lastT u 0 held).toNat) false u 0 hu (by omega) (gaps u 0 held) (by omega)
      (fun j h1 h2 => by
        rw [htl] at h2
        rw [mk_take_at u (D u n) held _ j h2 (by omega)]
        exact (gaps_inn u (D u n) held 0 hok j (by omega) (by omega)).symm)
      (gaps_sep u (D u n) held 0 hok) (fun x hx => by rw [htl]; have := gaps_top u (D u n) held 0 hok (by omega) x hx; omega) k (by omega)
    rw [show ((0 : Nat) : Int) = 0 from rfl] at hr
    rw [hr, Option.bind_some, bk_gaps u held 0 u (by unfold U32 at hu; omega) hh]

end Go.Proofs.Ytjiiejeldgkdiaa.Sack
