/- Proved: what the law says is true of whatever it is given. Every lemma names its own bounds. -/
import Derived.Test.YtjiiejeldgkdiaaQSackPlb
import Derived.Test.YtjiiejeldgkdiaaQSackLaw
set_option linter.unusedVariables false
set_option linter.unusedSimpArgs false
namespace Go.Proofs.Ytjiiejeldgkdiaa.Sack
open Go.RowKit Go.Proofs.Ytjiiejeldgkdiaa.PSackSays Go.Proofs.YtjiiejeldgkdiaaW.PrintWords Go.Proofs.YtjiiejeldgkdiaaW.PrintLast Go.Proofs.YtjiiejeldgkdiaaW.PrintMore

theorem addR_len (u n : Int) (held : List S77) (ack : Int) (l2 : List S77) : (addR u n held ack l2).2.2.1.length ≤ 256 := by
  unfold addR
  split
  · split
    · simp
    · split
      · simp
      · split
        · simp
        · show (outl u (D u ack) (allOf u n (D u ack) (held ++ l2))).length ≤ 256
          omega
  · simp
theorem law_j4 (u n : Int) (held : List S77) (l2 : List S77) (last : Int) (hu : U32 u) (hn : U32 n) (hw : Wf l2) (r1 r2 r4 : Int) (r3 : List S77) (hr : r3.length ≤ 1000) (holes lost : List S77) (hh : holes.length ≤ 1000) (hl : lost.length ≤ 1000) (eL : Int) (k : Nat) (hk : 6000000 ≤ k) :
    patchbaylaw3_SackSays.j4 k l2 last (sE u n held) r4 r4 holes (sE u n held) lost eL holes lost (if chE l2 = 0 then chs l2 last else []) eL (chE l2) u n held r1 r2 r3 r1 r2 r3 = some true := by
  obtain ⟨k, rfl⟩ : ∃ m, k = m + 1 := ⟨k - 1, by omega⟩
  have hc : (if chE l2 = 0 then chs l2 last else []).length ≤ 1000 := by
    split
    · have := chs_len l2 last; omega
    · simp
  rw [patchbaylaw3_SackSays.j4, pchoose_v l2 last hw k (by omega), Option.bind_some, pcheck_v u n held hu hn k (by omega), Option.bind_some, if_pos rfl, score_v r1 r2 r3 (by omega) k (by omega), Option.bind_some, if_pos rfl,
    blocks_v holes (by omega) k (by omega), Option.bind_some, if_pos rfl, if_pos rfl, blocks_v lost (by omega) k (by omega), Option.bind_some, if_pos rfl, if_pos rfl, if_pos rfl]
  show (patchbayref3_SameBlocks.f k (if chE l2 = 0 then chs l2 last else []) (if chE l2 = 0 then chs l2 last else [])).bind _ = _
  rw [blocks_v _ (by omega) k (by omega), Option.bind_some, if_pos rfl]
  simp
theorem law_j3 (u n : Int) (held : List S77) (l2 : List S77) (last : Int) (hu : U32 u) (hn : U32 n) (hw : Wf l2) (ha : U32 last) (r1 r2 r4 : Int) (r3 : List S77) (hr : r3.length ≤ 1000) (holes lost : List S77) (hh : holes.length ≤ 1000) (hl : lost.length ≤ 1000) (eL : Int) (k : Nat) (hk : 6000001 ≤ k) :
    patchbaylaw3_SackSays.j3 k l2 last (sE u n held) r4 r4 holes (sE u n held) lost eL holes lost [] eL (chE l2) u n held r1 r2 r3 r1 r2 r3 = some true := by
  obtain ⟨k, rfl⟩ : ∃ m, k = m + 1 := ⟨k - 1, by omega⟩
  have h4 := law_j4 u n held l2 last hu hn hw r1 r2 r4 r3 hr holes lost hh hl eL k (by omega)
  rw [patchbaylaw3_SackSays.j3]
  by_cases h : chE l2 = 0
  · have h3 : l2.length ≤ 256 := by
      unfold chE at h
      split at h
      · omega
      · omega
    rw [if_pos h] at h4
    rw [if_pos h, rchosen_v l2 last h3 hw ha k (by omega), Option.bind_some]
    exact h4
  · rw [if_neg h] at h4
    rw [if_neg h]
    exact h4
theorem law_l0 (u n : Int) (held : List S77) (l2 : List S77) (last : Int) (hu : U32 u) (hn : U32 n) (hw : Wf l2) (ha : U32 last) (hl2 : l2.length ≤ 9223372036854775807) (r1 r2 r4 : Int) (r3 : List S77) (hr : r3.length ≤ 1000) (holes lost : List S77) (hh : holes.length ≤ 1000) (hl : lost.length ≤ 1000) (eL : Int) (d : Nat) : ∀ (k i : Nat), l2.length - i = d → i ≤ l2.length → 2 * d + 6000010 ≤ k → allr l2 = allr (l2.drop i) →
    patchbaylaw3_SackSays.l0 k l2 last (sE u n held) r4 r4 holes (sE u n held) lost eL holes lost [] eL 0 i u n held r1 r2 r3 r1 r2 r3 = some true := by
  induction d with
  | zero =>
    intro k i hd hi hk hq
    obtain ⟨k, rfl⟩ : ∃ m, k = m + 2 := ⟨k - 2, by omega⟩
    have h3 := law_j3 u n held l2 last hu hn hw ha r1 r2 r4 r3 hr holes lost hh hl eL k (by omega)
    rw [List.drop_eq_nil_of_le (by omega), allr] at hq
    unfold chE at h3
    rw [if_pos hq] at h3
    rw [patchbaylaw3_SackSays.l0, if_neg (by omega), patchbaylaw3_SackSays.j2, if_neg (by decide)]
    by_cases h4 : l2.length > 256
    · rw [if_pos h4] at h3
      rw [if_pos (by omega)]
      exact h3
    · rw [if_neg h4] at h3
      rw [if_neg (by omega)]
      exact h3
  | succ d ih =>
    intro k i hd hi hk hq
    obtain ⟨k, rfl⟩ : ∃ m, k = m + 2 := ⟨k - 2, by omega⟩
    have hwf := wf_rd hw i (by omega)
    rw [drop_cons' l2 i (by omega), allr] at hq
    rw [patchbaylaw3_SackSays.l0, if_pos (by omega), patchbaylaw3_SackSays.j2, if_pos (by decide), if_pos (by omega), if_pos (by omega), rdiff_v _ _ hwf.2 hwf.1, Option.bind_some, show wrap64 ((i : Int) + 1) = ((i + 1 : Nat) : Int) from by rw [w64 (by omega)]; omega]
    by_cases h1 : sd (rd_T77 l2 i).f1 (rd_T77 l2 i).f0 ≤ 0
    · rw [if_pos h1] at hq ⊢
      obtain ⟨k, rfl⟩ : ∃ m, k = m + 2 := ⟨k - 2, by omega⟩
      have h3 := law_j3 u n held l2 last hu hn hw ha r1 r2 r4 r3 hr holes lost hh hl eL k (by omega)
      have hq2 : ¬ allr l2 = true := by rw [hq]; decide
      unfold chE at h3
      rw [if_neg hq2] at h3
      have key : patchbaylaw3_SackSays.j2 (k + 1) l2 last (sE u n held) r4 r4 holes (sE u n held) lost eL holes lost [] eL 10 ((i + 1 : Nat) : Int) false u n held r1 r2 r3 r1 r2 r3 = some true := by
        rw [patchbaylaw3_SackSays.j2, if_neg (by decide)]
        by_cases h4 : l2.length > 256
        · rw [if_pos h4] at h3
          rw [if_pos (by omega)]
          exact h3
        · rw [if_neg h4] at h3
          rw [if_neg (by omega)]
          exact h3
      rw [patchbaylaw3_SackSays.l0]
      by_cases h5 : ((i + 1 : Nat) : Int) < (l2.length : Int)
      · rw [if_pos h5]
        exact key
      · rw [if_neg h5]
        exact key
    · rw [if_neg h1] at hq ⊢
      exact ih k (i + 1) (by omega) (by omega) (by omega) hq
theorem law_j0 (u n : Int) (held : List S77) (l2 : List S77) (last : Int) (hu : U32 u) (hn : U32 n) (hw : Wf l2) (ha : U32 last) (hl2 : l2.length ≤ 9223372036854775807) (r1 r2 r4 : Int) (r3 : List S77) (hr : r3.length ≤ 1000) (holes lost : List S77) (hh : holes.length ≤ 1000) (hl : lost.length ≤ 1000) (eL : Int) (k : Nat) (hk : 2 * l2.length + 6000020 ≤ k) :
    patchbaylaw3_SackSays.j0 k l2 last (sE u n held) r4 r4 holes (sE u n held) lost eL holes lost [] eL u n held r1 r2 r3 r1 r2 r3 = some true := by
  obtain ⟨k, rfl⟩ : ∃ m, k = m + 1 := ⟨k - 1, by omega⟩
  rw [patchbaylaw3_SackSays.j0]
  have := law_l0 u n held l2 last hu hn hw ha hl2 r1 r2 r4 r3 hr holes lost hh hl eL l2.length k 0 rfl (by omega) (by omega) (by rw [List.drop_zero])
  exact this
theorem law_v (u n : Int) (held : List S77) (ack : Int) (l2 : List S77) (least last : Int) (hu : U32 u) (hn : U32 n) (hack : U32 ack) (ha : U32 last) (hh : Wf held) (hw : Wf l2) (hl2 : l2.length ≤ 9223372036854775807) (hN : sE u n held = 0 → D u n ≤ 2000) (k : Nat) (hk : 2 * l2.length + 6000020 ≤ k) :
    patchbaylaw3_SackSays.f k u n held ack l2 least last = some true := by
  have hr := addR_len u n held ack l2
  unfold patchbaylaw3_SackSays.f
  rw [fact_v k (by omega), Option.bind_some, if_pos rfl, rcheck_v u n held hu hn hh k (by omega), Option.bind_some, radd_v u n held ack l2 hu hn hack hh hw hN k (by omega), Option.bind_some, padd_v u n held ack l2 hu hn k (by omega), Option.bind_some,
    pholes_v u n held hu hn k (by omega), Option.bind_some, plost_v u n held least hu hn k (by omega), Option.bind_some]
  generalize addR u n held ack l2 = r at hr ⊢
  obtain ⟨r1, r2, r3, r4⟩ := r
  by_cases h0 : sE u n held = 0
  · have hl := sE_len h0
    have hhol : (hol u held).length ≤ 1000 := by rw [hol_len]; omega
    rw [if_pos h0, rholes_v u n held hu hn hh h0 (hN h0) k (by omega), Option.bind_some]
    simp only [if_pos h0]
    by_cases h1 : least < 1
    · have := law_j0 u n held l2 last hu hn hw ha hl2 r1 r2 r4 r3 (by have h : r3.length ≤ 256 := hr; omega) (hol u held) [] hhol (by simp) 1 k hk
      simp only [if_pos h1]
      exact this
    · have := law_j0 u n held l2 last hu hn hw ha hl2 r1 r2 r4 r3 (by have h : r3.length ≤ 256 := hr; omega) (hol u held) ((hol u held).take (mny u least held)) hhol (by rw [List.length_take]; omega) 0 k hk
      simp only [if_neg h1]
      rw [rlost_v u n held least hu hn hh h0 (hN h0) k (by omega), Option.bind_some]
      rw [h0] at this ⊢
      exact this
  · have := law_j0 u n held l2 last hu hn hw ha hl2 r1 r2 r4 r3 (by have h : r3.length ≤ 256 := hr; omega) [] [] (by simp) (by simp) (sE u n held) k hk
    rw [if_neg h0]
    simp only [if_neg h0]
    exact this

/-! near. -/
def nearV (a n : Int) : Int := if sd n a > 2000 then (a + D a n % 2000) % 4294967296 else n
theorem near_v (a n : Int) (ha : U32 a) (hn : U32 n) : patchbaylaw3_near.f a n = some (nearV a n) := by
  unfold patchbaylaw3_near.f nearV
  rw [rdiff_v n a hn ha, Option.bind_some]
  have hd := D_bd a n
  by_cases h : sd n a > 2000
  · rw [if_pos h, if_pos h, dist_v n a hn ha, Option.bind_some]
    have e : Int.tmod (D a n) 2000 = D a n % 2000 := Int.tmod_eq_emod_of_nonneg hd.1
    unfold U32 at ha
    rw [e, w64 (n := a) (by omega), w64 (n := a + D a n % 2000) (by omega), round_v _ (by omega), Option.bind_some]
    congr 1
    omega
  · rw [if_neg h, if_neg h]
theorem nearV_u32 (a n : Int) (hn : U32 n) : U32 (nearV a n) := by
  unfold nearV
  split
  · unfold U32; omega
  · exact hn
theorem nearV_bd (a n : Int) (held : List S77) (ha : U32 a) (hn : U32 n) (h0 : sE a (nearV a n) held = 0) : D a (nearV a n) ≤ 2000 := by
  unfold sE at h0
  split at h0
  · omega
  · split at h0
    · omega
    · rename_i h1 h2
      clear h0 h1
      unfold U32 at ha hn
      unfold nearV at h2 ⊢
      split at h2
      · rename_i h3
        rw [if_pos h3]
        have := D_bd a n
        unfold D at *
        omega
      · rename_i h3
        rw [if_neg h3]
        unfold sd at h2 h3
        unfold D
        omega
theorem law_all (a n : Int) (held : List S77) (ack : Int) (l2 : List S77) (least last : Int) (hu : U32 a) (hn : U32 n) (hack : U32 ack) (ha : U32 last) (hh : Wf held) (hw : Wf l2) (hl2 : l2.length ≤ 9223372036854775807) :
    ∃ nx k, patchbaylaw3_near.f a n = some nx ∧ U32 nx ∧ patchbaylaw3_SackSays.f k a nx held ack l2 least last = some true :=
  ⟨nearV a n, 2 * l2.length + 6000020, near_v a n hu hn, nearV_u32 a n hn, law_v a (nearV a n) held ack l2 least last hu (nearV_u32 a n hn) hack ha hh hw hl2 (nearV_bd a n held hu hn) _ (Nat.le_refl _)⟩

end Go.Proofs.Ytjiiejeldgkdiaa.Sack
