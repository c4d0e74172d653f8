/- Proved: the values of Lost and Choose, as plain numbers and lists. Every lemma names its own bounds. -/
import Derived.Test.YtjiiejeldgkdiaaQSackPlain
set_option linter.unusedVariables false
set_option linter.unusedSimpArgs false
namespace Go.Proofs.Ytjiiejeldgkdiaa.Sack
open Go.RowKit Go.Proofs.Ytjiiejeldgkdiaa.PSackSays Go.Proofs.YtjiiejeldgkdiaaW.PrintWords Go.Proofs.YtjiiejeldgkdiaaW.PrintLast Go.Proofs.YtjiiejeldgkdiaaW.PrintMore


/-! Lost. -/
def cn (ms : List Bool) : Nat → Nat → Int
  | 0, _ => 0
  | d + 1, j => (if rdOf false ms (j : Int) = true then 1 else 0) + cn ms d (j + 1)
theorem cn_add (ms : List Bool) (b : Nat) : ∀ (a j : Nat), cn ms (a + b) j = cn ms a j + cn ms b (j + a)
  | 0, j => by rw [Nat.zero_add, cn, Nat.add_zero]; omega
  | a + 1, j => by
    rw [show a + 1 + b = (a + b) + 1 from by omega, cn, cn, cn_add ms b a (j + 1), show j + 1 + a = j + (a + 1) from by omega]; omega
theorem cn_true (ms : List Bool) : ∀ (a j : Nat), (∀ t, j ≤ t → t < j + a → rdOf false ms (t : Int) = true) → cn ms a j = a
  | 0, j, _ => rfl
  | a + 1, j, h => by
    rw [cn, if_pos (h j (by omega) (by omega)), cn_true ms a (j + 1) (fun t h1 h2 => h t (by omega) (by omega))]; omega
theorem cn_false (ms : List Bool) : ∀ (a j : Nat), (∀ t, j ≤ t → t < j + a → ¬ rdOf false ms (t : Int) = true) → cn ms a j = 0
  | 0, j, _ => rfl
  | a + 1, j, h => by
    rw [cn, if_neg (h j (by omega) (by omega)), cn_false ms a (j + 1) (fun t h1 h2 => h t (by omega) (by omega))]; rfl
theorem cn_bd (ms : List Bool) : ∀ (a j : Nat), 0 ≤ cn ms a j ∧ cn ms a j ≤ a
  | 0, j => by rw [cn]; omega
  | a + 1, j => by
    have := cn_bd ms a (j + 1)
    rw [cn]
    split <;> omega
def sumL (u : Int) : List S77 → Int
  | [] => 0
  | b :: r => (D u b.f1 - D u b.f0) + sumL u r
theorem cn_sum (u N : Int) (ms : List Bool) : ∀ (l : List S77) (lo : Int), okl u N lo l = true → 0 ≤ lo → lo ≤ N → (∀ t : Nat, lo ≤ t → (t : Int) < N → (rdOf false ms (t : Int) = true ↔ ∃ b ∈ l, good u N b t = true)) →
    ∀ j : Nat, lo ≤ j → (j : Int) ≤ N → (∀ b ∈ l.head?, (j : Int) ≤ D u b.f0) → cn ms (N.toNat - j) j = sumL u l
  | [], lo, h, h0, hlo, hm, j, hj, hjN, _ => by
    rw [sumL]
    refine cn_false ms _ j (fun t h1 h2 => ?_)
    rw [hm t (by omega) (by omega)]
    rintro ⟨b, hb, _⟩
    simp at hb
  | b :: r, lo, h, h0, hlo, hm, j, hj, hjN, hh => by
    obtain ⟨a, c, d, e⟩ := okl_cons h
    have hjb := hh b (by simp)
    have hF := D_bd u b.f0
    have hT := D_bd u b.f1
    have hgb : ∀ t : Int, good u N b t = true ↔ (D u b.f0 ≤ t ∧ t < D u b.f1) := by
      intro t; unfold good; rw [decide_eq_true_iff]; omega
    have hex : ∀ t : Int, (∃ x ∈ b :: r, good u N x t = true) ↔ (good u N b t = true ∨ ∃ x ∈ r, good u N x t = true) := by
      intro t
      constructor
      · rintro ⟨x, hx, hg⟩
        rcases List.mem_cons.1 hx with rfl | hx
        · exact .inl hg
        · exact .inr ⟨x, hx, hg⟩
      · rintro (hg | ⟨x, hx, hg⟩)
        · exact ⟨b, List.mem_cons_self .., hg⟩
        · exact ⟨x, List.mem_cons_of_mem _ hx, hg⟩
    have hr : ∀ t : Int, (∃ x ∈ r, good u N x t = true) → D u b.f1 < t := fun t q => good_lo u N r (D u b.f1) e t q
    have ih := cn_sum u N ms r (D u b.f1) e (by omega) d (fun t h1 h2 => by
      rw [hm t (by omega) h2, hex t, hgb t]
      constructor
      · rintro (q | q)
        · omega
        · exact q
      · exact .inr) (D u b.f1).toNat (by omega) (by omega) (fun x hx => by
        cases r with
        | nil => simp at hx
        | cons y r' =>
          simp at hx
          subst hx
          have := (okl_cons e).1
          omega)
    rw [show N.toNat - j = ((D u b.f0).toNat - j) + (((D u b.f1).toNat - (D u b.f0).toNat) + (N.toNat - (D u b.f1).toNat)) from by omega, cn_add, cn_add]
    rw [show j + ((D u b.f0).toNat - j) = (D u b.f0).toNat from by omega, show (D u b.f0).toNat + ((D u b.f1).toNat - (D u b.f0).toNat) = (D u b.f1).toNat from by omega, ih]
    rw [cn_false ms _ j (fun t h1 h2 => by
      rw [hm t (by omega) (by omega), hex t, hgb t]
      rintro (q | q)
      · omega
      · have := hr t q; omega)]
    rw [cn_true ms _ (D u b.f0).toNat (fun t h1 h2 => by
      rw [hm t (by omega) (by omega), hex t, hgb t]
      exact .inl ⟨by omega, by omega⟩)]
    rw [sumL]; omega
theorem okl_drop (u N : Int) : ∀ (l : List S77) (lo : Int) (i : Nat), okl u N lo l = true → lo ≤ N → ∃ lo', lo ≤ lo' ∧ lo' ≤ N ∧ okl u N lo' (l.drop i) = true ∧ ∀ t : Int, lo' ≤ t → ((∃ b ∈ l, good u N b t = true) ↔ ∃ b ∈ l.drop i, good u N b t = true)
  | l, lo, 0, h, h2 => ⟨lo, Int.le_refl _, h2, by rw [List.drop_zero]; exact h, fun t _ => by rw [List.drop_zero]⟩
  | [], lo, i + 1, h, h2 => ⟨lo, Int.le_refl _, h2, h, fun t _ => Iff.rfl⟩
  | b :: r, lo, i + 1, h, h2 => by
    obtain ⟨a, c, d, e⟩ := okl_cons h
    obtain ⟨lo', h3, h4, h5, h6⟩ := okl_drop u N r (D u b.f1) i e d
    refine ⟨lo', by omega, h4, h5, fun t ht => ?_⟩
    rw [List.drop_succ_cons, ← h6 t ht]
    constructor
    · rintro ⟨x, hx, hg⟩
      rcases List.mem_cons.1 hx with rfl | hx
      · unfold good at hg; rw [decide_eq_true_iff] at hg; omega
      · exact ⟨x, hx, hg⟩
    · rintro ⟨x, hx, hg⟩
      exact ⟨x, List.mem_cons_of_mem _ hx, hg⟩
def mny (u least : Int) : List S77 → Nat
  | [] => 0
  | b :: r => if sumL u (b :: r) ≥ least then mny u least r + 1 else 0
def flt (u least : Int) : List S77 → List S77 → List S77
  | h :: hs, b :: r => if sumL u (b :: r) ≥ least then h :: flt u least hs r else flt u least hs r
  | _, _ => []
theorem flt_nil (u N least : Int) : ∀ (hs l : List S77) (lo : Int), okl u N lo l = true → sumL u l < least → flt u least hs l = []
  | [], _, _, _, _ => by rw [flt]; simp
  | _ :: _, [], _, _, _ => by rw [flt]; simp
  | h :: hs, b :: r, lo, ho, hs' => by
    obtain ⟨a, c, d, e⟩ := okl_cons ho
    rw [flt, if_neg (by omega)]
    rw [sumL] at hs'
    exact flt_nil u N least hs r _ e (by omega)
theorem flt_take (u N least : Int) : ∀ (hs l : List S77) (lo : Int), okl u N lo l = true → hs.length = l.length → flt u least hs l = hs.take (mny u least l)
  | [], [], _, _, _ => by simp [flt]
  | [], _ :: _, _, _, h => by simp at h
  | _ :: _, [], _, _, h => by simp at h
  | h :: hs, b :: r, lo, ho, hl => by
    obtain ⟨a, c, d, e⟩ := okl_cons ho
    rw [flt, mny]
    by_cases hc : sumL u (b :: r) ≥ least
    · rw [if_pos hc, if_pos hc, List.take_succ_cons, flt_take u N least hs r _ e (by simpa using hl)]
    · rw [if_neg hc, if_neg hc, List.take_zero]
      rw [sumL] at hc
      exact flt_nil u N least hs r _ e (by omega)
theorem mny_at (u N least : Int) : ∀ (l : List S77) (lo : Int) (m : Nat), okl u N lo l = true → m ≤ l.length → (0 < m → sumL u (l.drop (m - 1)) ≥ least) → (m < l.length → sumL u (l.drop m) < least) → mny u least l = m
  | [], lo, m, _, h1, _, _ => by simp at h1; rw [h1]; rfl
  | b :: r, lo, 0, _, _, _, h3 => by
    have := h3 (by simp)
    rw [List.drop_zero] at this
    rw [mny, if_neg (by omega)]
  | b :: r, lo, m + 1, ho, h1, h2, h3 => by
    obtain ⟨a, c, d, e⟩ := okl_cons ho
    have ih := mny_at u N least r _ m e (by simpa using h1) (fun hm => by
      have := h2 (by omega)
      rw [show m + 1 - 1 = (m - 1) + 1 from by omega, List.drop_succ_cons] at this
      exact this) (fun hm => by
      have := h3 (by simpa using hm)
      rw [List.drop_succ_cons] at this
      exact this)
    have hs : sumL u (b :: r) ≥ least := by
      cases m with
      | zero => exact h2 (by omega)
      | succ m =>
        have h4 := h2 (by omega)
        rw [show m + 1 + 1 - 1 = m + 1 from rfl, List.drop_succ_cons] at h4
        have h5 : ∀ (l : List S77) (lo : Int) (i : Nat), okl u N lo l = true → sumL u (l.drop i) ≤ sumL u l := by
          intro l
          induction l with
          | nil => intro lo i _; rw [List.drop_nil]; exact Int.le_refl _
          | cons x l ih =>
            intro lo i hx
            obtain ⟨a, c, d, e⟩ := okl_cons hx
            cases i with
            | zero => exact Int.le_refl _
            | succ i =>
              have := ih _ i e
              rw [List.drop_succ_cons, sumL]; omega
        have h6 := h5 r _ m e
        rw [sumL]; omega
    rw [mny, if_pos hs, ih]
theorem hol_len : ∀ (l : List S77) (frm : Int), (hol frm l).length = l.length
  | [], _ => rfl
  | b :: r, frm => by rw [hol, List.length_cons, List.length_cons, hol_len r b.f1]
theorem hol_to : ∀ (l : List S77) (frm : Int) (i : Nat), i < l.length → (rd_T77 (hol frm l) i).f1 = (rd_T77 l i).f0
  | [], _, i, h => by simp at h
  | b :: r, frm, 0, h => rfl
  | b :: r, frm, i + 1, h => by
    have h2 : i < r.length := by simpa using h
    have := hol_to r b.f1 i h2
    rw [rd_mem _ _ (by rw [hol_len]; exact h2), rd_mem _ _ h2] at this
    rw [rd_mem _ _ (by rw [hol_len]; exact h), rd_mem _ _ h]
    exact this
theorem sumL_bd (u N : Int) : ∀ (l : List S77) (lo : Int), okl u N lo l = true → lo ≤ N → 0 ≤ sumL u l ∧ sumL u l ≤ N - lo
  | [], lo, _, _ => by rw [sumL]; omega
  | b :: r, lo, h, _ => by
    obtain ⟨a, c, d, e⟩ := okl_cons h
    have := sumL_bd u N r _ e d
    rw [sumL]; omega
theorem okl_sum_drop (u N : Int) (l : List S77) (lo : Int) (h : okl u N lo l = true) (hN : lo ≤ N) (h0 : 0 ≤ lo) (i : Nat) : 0 ≤ sumL u (l.drop i) ∧ sumL u (l.drop i) ≤ N := by
  obtain ⟨lo', h1, h2, h3, _⟩ := okl_drop u N l lo i h hN
  have := sumL_bd u N _ lo' h3 h2
  omega
theorem okl_at (u N : Int) (l : List S77) (lo : Int) (h : okl u N lo l = true) (hN : lo ≤ N) (i : Nat) (hi : i < l.length) : lo < D u (rd_T77 l i).f0 ∧ D u (rd_T77 l i).f0 < D u (rd_T77 l i).f1 ∧ D u (rd_T77 l i).f1 ≤ N ∧ sumL u (l.drop i) = D u (rd_T77 l i).f1 - D u (rd_T77 l i).f0 + sumL u (l.drop (i + 1)) := by
  obtain ⟨lo', h1, h2, h3, _⟩ := okl_drop u N l lo i h hN
  rw [drop_cons' l i hi] at h3 ⊢
  obtain ⟨a, c, d, _⟩ := okl_cons h3
  exact ⟨by omega, c, d, rfl⟩
theorem plost_l (u n least : Int) (held hs : List S77) (x0 x1 : Int) (hl : held.length ≤ 1000) (hhs : hs.length = held.length) (ho : okl u (D u n) 0 held = true) :
    ∀ (i k : Nat), i ≤ held.length → i < k → (i < held.length → sumL u (held.drop i) < least) →
      sack_Lost.l0 k least hs (sumL u (held.drop i)) 0 ((i : Int) - 1) x0 x1 held = some (hs.take (mny u least held), 0) := by
  have dn := D_bd u n
  intro i
  induction i with
  | zero =>
    intro k _ hk h
    obtain ⟨k, rfl⟩ : ∃ m, k = m + 1 := ⟨k - 1, by omega⟩
    rw [sack_Lost.l0, if_neg (by omega), if_pos (by omega), if_pos (by omega), if_pos (by omega)]
    rw [mny_at u (D u n) least held 0 0 ho (Nat.zero_le _) (fun h => by omega) h]
    rfl
  | succ i ih =>
    intro k hi hk h
    obtain ⟨k, rfl⟩ : ∃ m, k = m + 1 := ⟨k - 1, by omega⟩
    obtain ⟨_, a2, a3, a4⟩ := okl_at u (D u n) held 0 ho (by omega) i (by omega)
    have b1 := okl_sum_drop u (D u n) held 0 ho (by omega) (by omega) (i + 1)
    have b2 := D_bd u (rd_T77 held i).f0
    have e1 : ((i + 1 : Nat) : Int) - 1 = (i : Int) := by omega
    have e2 : ((rd_T77 held i).f1 - (rd_T77 held i).f0) % 4294967296 = D u (rd_T77 held i).f1 - D u (rd_T77 held i).f0 := by
      unfold D at *; omega
    rw [e1, sack_Lost.l0, if_pos (by omega), if_pos (by omega), if_pos (by omega), e2, w64 (n := sumL u (held.drop (i + 1)) + _) (by omega), show sumL u (held.drop (i + 1)) + (D u (rd_T77 held i).f1 - D u (rd_T77 held i).f0) = sumL u (held.drop i) from by omega]
    by_cases hc : sumL u (held.drop i) ≥ least
    · rw [if_pos hc, w64 (n := (i : Int) + 1) (by omega), if_pos (by omega), if_pos (by omega), if_pos (by omega)]
      rw [mny_at u (D u n) least held 0 (i + 1) ho hi (fun _ => hc) h]
      rfl
    · rw [if_neg hc, w64 (n := (i : Int) - 1) (by omega)]
      exact ih k (by omega) (by omega) (fun _ => by omega)
theorem plost_v (u n : Int) (held : List S77) (least : Int) (hu : U32 u) (hn : U32 n) (k : Nat) (hk : 300 ≤ k) :
    sack_Lost.f k u n held least = some (if sE u n held = 0 then (if least < 1 then ([], 1) else ((hol u held).take (mny u least held), 0)) else ([], sE u n held)) := by
  unfold sack_Lost.f
  rw [pholes_v u n held hu hn k hk, Option.bind_some]
  by_cases h0 : sE u n held = 0
  · have hl := sE_len h0
    simp only [if_pos h0]
    by_cases h1 : least < 1
    · rw [if_pos h1, if_pos h1]
    · rw [if_neg h1, if_neg h1]
      have := plost_l u n least held (hol u held) u n (by omega) (hol_len held u) (sE_okl h0) held.length k (Nat.le_refl _) (by omega) (fun h => by omega)
      rw [List.drop_length] at this
      show sack_Lost.l0 k least (hol u held) 0 0 (wrap64 (((hol u held).length : Int) - 1)) u n held = _
      rw [hol_len, w64 (by omega)]
      exact this
  · simp only [if_neg h0]
theorem rlost_in (least : Int) (ms : List Bool) (hs out : List S77) (x8 x0 x1 : Int) (held : List S77) (hms : ms.length ≤ 1000000) (d : Nat) : ∀ (k j : Nat) (c : Int), j + d = ms.length → 0 ≤ c → c ≤ j →
    patchbayref3_Lost.l1 (k + d + 1) least ms hs out x8 c j x0 x1 held = patchbayref3_Lost.l1 (k + 1) least ms hs out x8 (c + cn ms d j) ms.length x0 x1 held := by
  induction d with
  | zero =>
    intro k j c hj h1 h2
    obtain rfl : j = ms.length := by omega
    rw [cn, Nat.add_zero, Int.add_zero]
  | succ d ih =>
    intro k j c hj h1 h2
    rw [show k + (d + 1) + 1 = (k + d + 1) + 1 from by omega, patchbayref3_Lost.l1, if_pos (by omega), if_pos (by omega), show wrap64 ((j : Int) + 1) = ((j + 1 : Nat) : Int) from by rw [w64 (by omega)]; omega, cn]
    by_cases hc : rdOf false ms (j : Int) = true
    · rw [if_pos hc, if_pos hc, w64 (n := c + 1) (by omega), ih k (j + 1) (c + 1) (by omega) (by omega) (by omega), Int.add_assoc]
    · rw [if_neg hc, if_neg hc, ih k (j + 1) c (by omega) (by omega) (by omega), Int.zero_add]
theorem rlost_l (u n least : Int) (held : List S77) (hu : U32 u) (hh : Wf held) (hl : held.length ≤ 256) (ho : okl u (D u n) 0 held = true) (hN : D u n ≤ 2000) (d : Nat) :
    ∀ (k i : Nat) (out : List S77), held.length - i = d → i ≤ held.length → d * 2005 < k → out.length ≤ i →
      patchbayref3_Lost.l0 k least (mk u (D u n) held) (hol u held) out i u n held = some (out ++ flt u least ((hol u held).drop i) (held.drop i)) := by
  have dn := D_bd u n
  induction d with
  | zero =>
    intro k i out hd hi hk ho'
    obtain ⟨k, rfl⟩ : ∃ m, k = m + 1 := ⟨k - 1, by omega⟩
    rw [patchbayref3_Lost.l0, if_neg (by rw [hol_len]; omega), show held.drop i = [] from List.drop_eq_nil_of_le (by omega), List.drop_eq_nil_of_le (by rw [hol_len]; omega), flt, List.append_nil]
    simp
  | succ d ih =>
    intro k i out hd hi hk ho'
    obtain ⟨k, rfl⟩ : ∃ m, k = m + 1 := ⟨k - 1, by omega⟩
    have hk1 : d * 2005 + 2005 < k + 1 := by rw [← Nat.succ_mul]; exact hk
    clear hk
    generalize d * 2005 = q at hk1 ih
    have hk2 : ∀ a b : Nat, a ≤ 2000 → q < k - (a - b) - 1 := by intro a b h; omega
    have hi' : i < held.length := by omega
    have hwf := wf_rd hh i hi'
    obtain ⟨a1, a2, a3, a4⟩ := okl_at u (D u n) held 0 ho (by omega) i hi'
    obtain ⟨lo', g1, g2, g3, g4⟩ := okl_drop u (D u n) held 0 i ho (by omega)
    have g5 := g3
    rw [drop_cons' held i hi'] at g5
    have g6 := (okl_cons g5).1
    have hsum := cn_sum u (D u n) (mk u (D u n) held) (held.drop i) lo' g3 g1 g2 (fun t h1 h2 => by
      rw [← g4 t h1]
      have := mk_at u (D u n) held t h2
      unfold isAt at this
      rw [beq_iff_eq] at this
      exact this) (D u (rd_T77 held i).f0).toNat (by omega) (by omega) (fun b hb => by
      rw [drop_cons' held i hi'] at hb
      simp at hb
      subst hb
      omega)
    have hsb := okl_sum_drop u (D u n) held 0 ho (by omega) (by omega) i
    rw [patchbayref3_Lost.l0, if_pos (by rw [hol_len]; omega), if_pos (by omega), hol_to held u i hi', dist_v _ _ hwf.1 hu, Option.bind_some]
    have hin := rlost_in least (mk u (D u n) held) (hol u held) out i u n held (by rw [mk_len]; omega) ((D u n).toNat - (D u (rd_T77 held i).f0).toNat) (k - ((D u n).toNat - (D u (rd_T77 held i).f0).toNat) - 1) (D u (rd_T77 held i).f0).toNat 0 (by rw [mk_len]; omega) (by omega) (by omega)
    rw [show k - ((D u n).toNat - (D u (rd_T77 held i).f0).toNat) - 1 + ((D u n).toNat - (D u (rd_T77 held i).f0).toNat) + 1 = k from by omega, show (((D u (rd_T77 held i).f0).toNat : Nat) : Int) = D u (rd_T77 held i).f0 from by omega] at hin
    rw [hin, hsum, Int.zero_add, patchbayref3_Lost.l1, if_neg (by omega)]
    have e1 : wrap64 ((i : Int) + 1) = ((i + 1 : Nat) : Int) := by rw [w64 (by omega)]; omega
    have hdh := drop_cons' (hol u held) i (by rw [hol_len]; exact hi')
    rw [hdh, drop_cons' held i hi', flt, ← drop_cons' held i hi']
    have he : (⟨(rd_T77 (hol u held) i).f0, (rd_T77 (hol u held) i).f1⟩ : S77) = rd_T77 (hol u held) i := rfl
    have hk3 := hk2 (D u n).toNat (D u (rd_T77 held i).f0).toNat (by omega)
    clear hk2 hin hsum g4 hk1
    generalize k - ((D u n).toNat - (D u (rd_T77 held i).f0).toNat) - 1 = K at hk3 ⊢
    clear a1 a2 a3 a4 g1 g2 g3 g5 g6 hsb hwf hdh
    have f1 : held.length - (i + 1) = d := by omega
    have f2 : i + 1 ≤ held.length := by omega
    have f3 : out.length < 17592186044416 := by omega
    have f4 : (i : Int) < ((hol u held).length : Int) := by rw [hol_len]; omega
    have f5 : (0 : Int) ≤ (i : Int) := by omega
    by_cases hc : sumL u (held.drop i) ≥ least
    · have h2 := ih K (i + 1) (out ++ [rd_T77 (hol u held) i]) f1 f2 hk3 (by rw [List.length_append, List.length_singleton]; exact Nat.succ_le_succ ho')
      rw [List.append_assoc, List.singleton_append] at h2
      rw [if_pos hc, if_pos f5, if_pos f4, if_pos f3, e1, he, if_pos hc]
      exact h2
    · have h2 := ih K (i + 1) out f1 f2 hk3 (Nat.le_succ_of_le ho')
      rw [if_neg hc, e1, if_neg hc]
      exact h2
theorem rlost_v (u n : Int) (held : List S77) (least : Int) (hu : U32 u) (hn : U32 n) (hh : Wf held) (h0 : sE u n held = 0) (hN : D u n ≤ 2000) (k : Nat) (hk : 6000000 ≤ k) :
    patchbayref3_Lost.f k u n held least = some ((hol u held).take (mny u least held)) := by
  have hl := sE_len h0
  have hok := sE_okl h0
  unfold patchbayref3_Lost.f
  rw [marks_v held [] u n hu hn hh (fun x hx => by simp at hx) (by omega) (by simp) hN k (by omega), Option.bind_some, List.append_nil, rholes_v u n held hu hn hh h0 hN k hk, Option.bind_some]
  have := rlost_l u n least held hu hh (by omega) hok hN held.length k 0 [] rfl (by omega) (by omega) (by simp)
  rw [List.drop_zero, List.drop_zero, List.nil_append, flt_take u (D u n) least _ held 0 hok (hol_len held u)] at this
  exact this

/-! Choose. -/
def allr : List S77 → Bool
  | [] => true
  | b :: r => if sd b.f1 b.f0 ≤ 0 then false else allr r
def chE (l : List S77) : Int := if l.length > 256 then 2 else if allr l = true then 0 else 10
def fi (last : Int) : Nat → List S77 → Int
  | _, [] => -1
  | i, b :: r => if D b.f0 last < D b.f0 b.f1 then (i : Int) else fi last (i + 1) r
def sel (f : Int) : Nat → List S77 → List S77 → List S77
  | _, out, [] => out
  | i, out, b :: r => if (i : Int) = f then sel f (i + 1) out r else if (out.length : Int) < 3 then sel f (i + 1) (out ++ [b]) r else sel f (i + 1) out r
def chs (l : List S77) (last : Int) : List S77 := sel (fi last 0 l) 0 (if fi last 0 l ≥ 0 then [rd_T77 l (fi last 0 l)] else []) l
theorem fi_bd (last : Int) : ∀ (l : List S77) (i : Nat), fi last i l = -1 ∨ ((i : Int) ≤ fi last i l ∧ fi last i l < i + l.length)
  | [], i => .inl rfl
  | b :: r, i => by
    rw [fi, List.length_cons]
    split
    · exact .inr ⟨by omega, by omega⟩
    · have := fi_bd last r (i + 1)
      omega
theorem sel_len (f : Int) : ∀ (l : List S77) (i : Nat) (out : List S77), out.length ≤ 3 → (sel f i out l).length ≤ 3
  | [], i, out, h => by rw [sel]; exact h
  | b :: r, i, out, h => by
    rw [sel]
    split
    · exact sel_len f r _ _ h
    · split
      · exact sel_len f r _ _ (by rw [List.length_append, List.length_singleton]; omega)
      · exact sel_len f r _ _ h
theorem chs_len (l : List S77) (last : Int) : (chs l last).length ≤ 3 := by
  unfold chs
  apply sel_len
  split <;> simp
theorem psel_l (f : Int) (l : List S77) (hl : l.length ≤ 1000) (d : Nat) : ∀ (k i : Nat) (out : List S77), l.length - i = d → i ≤ l.length → d < k → out.length ≤ i + 1 →
    sack_Choose.l2 k f out l l.length i = some (sel f i out (l.drop i), 0) := by
  induction d with
  | zero =>
    intro k i out hd hi hk ho
    obtain ⟨k, rfl⟩ : ∃ m, k = m + 1 := ⟨k - 1, by omega⟩
    rw [sack_Choose.l2, if_neg (by omega), List.drop_eq_nil_of_le (by omega), sel]
  | succ d ih =>
    intro k i out hd hi hk ho
    obtain ⟨k, rfl⟩ : ∃ m, k = m + 1 := ⟨k - 1, by omega⟩
    rw [sack_Choose.l2, if_pos (by omega), if_pos (by omega), if_pos (by omega), drop_cons' l i (by omega), sel, show wrap64 ((i : Int) + 1) = ((i + 1 : Nat) : Int) from by rw [w64 (by omega)]; omega]
    by_cases h1 : (i : Int) = f
    · rw [if_pos h1, if_pos h1, ih k (i + 1) _ (by omega) (by omega) (by omega) (by omega)]
    · rw [if_neg h1, if_neg h1]
      by_cases h2 : (out.length : Int) < 3
      · rw [if_pos h2, if_pos h2, if_pos (by omega), ih k (i + 1) _ (by omega) (by omega) (by omega) (by rw [List.length_append, List.length_singleton]; omega)]
      · rw [if_neg h2, if_neg h2, ih k (i + 1) _ (by omega) (by omega) (by omega) (by omega)]
theorem rsel_l (f : Int) (l : List S77) (hl : l.length ≤ 1000) (d : Nat) : ∀ (k i : Nat) (out : List S77), l.length - i = d → i ≤ l.length → d < k → out.length ≤ i + 1 →
    patchbayref3_Chosen.l1 k l f out i = some (sel f i out (l.drop i)) := by
  induction d with
  | zero =>
    intro k i out hd hi hk ho
    obtain ⟨k, rfl⟩ : ∃ m, k = m + 1 := ⟨k - 1, by omega⟩
    rw [patchbayref3_Chosen.l1, if_neg (by omega), List.drop_eq_nil_of_le (by omega), sel]
  | succ d ih =>
    intro k i out hd hi hk ho
    obtain ⟨k, rfl⟩ : ∃ m, k = m + 1 := ⟨k - 1, by omega⟩
    rw [patchbayref3_Chosen.l1, if_pos (by omega), drop_cons' l i (by omega), sel, show wrap64 ((i : Int) + 1) = ((i + 1 : Nat) : Int) from by rw [w64 (by omega)]; omega]
    by_cases h1 : (i : Int) = f
    · rw [if_pos h1, if_pos h1, ih k (i + 1) _ (by omega) (by omega) (by omega) (by omega)]
    · rw [if_neg h1, if_neg h1]
      by_cases h2 : (out.length : Int) < 3
      · rw [if_pos h2, if_pos h2, if_pos (by omega), if_pos (by omega), ih k (i + 1) _ (by omega) (by omega) (by omega) (by rw [List.length_append, List.length_singleton]; omega)]
      · rw [if_neg h2, if_neg h2, ih k (i + 1) _ (by omega) (by omega) (by omega) (by omega)]
theorem pj2_v (l : List S77) (last : Int) (hl : l.length ≤ 1000) (k : Nat) (hk : 1100 ≤ k) : sack_Choose.j2 k l (fi last 0 l) = some (chs l last, 0) := by
  obtain ⟨k, rfl⟩ : ∃ m, k = m + 2 := ⟨k - 2, by omega⟩
  rw [sack_Choose.j2]
  unfold chs
  have hb := fi_bd last l 0
  have key : ∀ out : List S77, out.length ≤ 1 → sack_Choose.j3 (k + 1) l (fi last 0 l) out = some (sel (fi last 0 l) 0 out l, 0) := by
    intro out ho
    rw [sack_Choose.j3]
    have := psel_l (fi last 0 l) l hl l.length k 0 out rfl (by omega) (by omega) (by omega)
    rw [List.drop_zero] at this
    exact this
  by_cases h : fi last 0 l ≥ 0
  · rw [if_pos h, if_pos h, if_pos h, if_pos (by omega), if_pos (by simp), key _ (by simp)]
    rfl
  · rw [if_neg h, if_neg h, key _ (by simp)]
theorem rj1_v (l : List S77) (last : Int) (hl : l.length ≤ 1000) (k : Nat) (hk : 1100 ≤ k) :
    (if fi last 0 l ≥ 0 then (if 0 ≤ fi last 0 l then (if fi last 0 l < (l.length : Int) then (if ([] : List (S77)).length < 17592186044416 then (patchbayref3_Chosen.j1 k l (fi last 0 l) (([] : List (S77)) ++ [(⟨(rd_T77 l (fi last 0 l)).f0, (rd_T77 l (fi last 0 l)).f1⟩ : S77)])) else (none)) else (none)) else (none)) else (patchbayref3_Chosen.j1 k l (fi last 0 l) ([] : List (S77)))) = some (chs l last) := by
  obtain ⟨k, rfl⟩ : ∃ m, k = m + 1 := ⟨k - 1, by omega⟩
  unfold chs
  have hb := fi_bd last l 0
  have key : ∀ out : List S77, out.length ≤ 1 → patchbayref3_Chosen.j1 (k + 1) l (fi last 0 l) out = some (sel (fi last 0 l) 0 out l) := by
    intro out ho
    rw [patchbayref3_Chosen.j1]
    have := rsel_l (fi last 0 l) l hl l.length k 0 out rfl (by omega) (by omega) (by omega)
    rw [List.drop_zero] at this
    exact this
  by_cases h : fi last 0 l ≥ 0
  · rw [if_pos h, if_pos h, if_pos h, if_pos (by omega), if_pos (by simp), key _ (by simp)]
    rfl
  · rw [if_neg h, if_neg h, key _ (by simp)]
theorem pfi_l (l : List S77) (last : Int) (hl : l.length ≤ 1000) (d : Nat) : ∀ (k i : Nat), l.length - i = d → i ≤ l.length → d + 1101 ≤ k → fi last i (l.drop i) = fi last 0 l →
    sack_Choose.l1 k l last (-1) l l.length i = some (chs l last, 0) := by
  induction d with
  | zero =>
    intro k i hd hi hk hf
    obtain ⟨k, rfl⟩ : ∃ m, k = m + 1 := ⟨k - 1, by omega⟩
    rw [List.drop_eq_nil_of_le (by omega), fi] at hf
    rw [sack_Choose.l1, if_neg (by omega), hf]
    exact pj2_v l last hl k (by omega)
  | succ d ih =>
    intro k i hd hi hk hf
    obtain ⟨k, rfl⟩ : ∃ m, k = m + 1 := ⟨k - 1, by omega⟩
    rw [drop_cons' l i (by omega), fi] at hf
    rw [sack_Choose.l1, if_pos (by omega), if_pos (by omega), if_pos (by omega), seq_In.f, Option.bind_some]
    by_cases h1 : D (rd_T77 l i).f0 last < D (rd_T77 l i).f0 (rd_T77 l i).f1
    · rw [if_pos h1] at hf
      rw [if_pos (decide_eq_true (show (last - (rd_T77 l i).f0) % 4294967296 < ((rd_T77 l i).f1 - (rd_T77 l i).f0) % 4294967296 from h1)), hf]
      exact pj2_v l last hl k (by omega)
    · rw [if_neg h1] at hf
      rw [if_neg (by simpa using (show ¬ ((last - (rd_T77 l i).f0) % 4294967296 < ((rd_T77 l i).f1 - (rd_T77 l i).f0) % 4294967296) from h1)), show wrap64 ((i : Int) + 1) = ((i + 1 : Nat) : Int) from by rw [w64 (by omega)]; omega]
      exact ih k (i + 1) (by omega) (by omega) (by omega) hf
theorem rfi_l (l : List S77) (last : Int) (hl : l.length ≤ 1000) (hw : Wf l) (ha : U32 last) : ∀ (i k : Nat), i ≤ l.length → i + 1101 ≤ k →
    patchbayref3_Chosen.l0 k l last (fi last i (l.drop i)) ((i : Int) - 1) = some (chs l last) := by
  intro i
  induction i with
  | zero =>
    intro k _ hk
    obtain ⟨k, rfl⟩ : ∃ m, k = m + 1 := ⟨k - 1, by omega⟩
    rw [patchbayref3_Chosen.l0, if_neg (by omega), List.drop_zero]
    exact rj1_v l last hl k (by omega)
  | succ i ih =>
    intro k hi hk
    obtain ⟨k, rfl⟩ : ∃ m, k = m + 1 := ⟨k - 1, by omega⟩
    have hwf := wf_rd hw i (by omega)
    have h2 := ih k (by omega) (by omega)
    rw [drop_cons' l i (by omega), fi] at h2
    rw [show ((i + 1 : Nat) : Int) - 1 = (i : Int) from by omega, patchbayref3_Chosen.l0, if_pos (by omega), if_pos (by omega), if_pos (by omega), dist_v _ _ ha hwf.1, Option.bind_some, dist_v _ _ hwf.2 hwf.1, Option.bind_some, w64 (n := (i : Int) - 1) (by omega)]
    by_cases h1 : D (rd_T77 l i).f0 last < D (rd_T77 l i).f0 (rd_T77 l i).f1
    · rw [if_pos h1] at h2 ⊢
      exact h2
    · rw [if_neg h1] at h2 ⊢
      exact h2
theorem rchosen_v (l : List S77) (last : Int) (hl : l.length ≤ 256) (hw : Wf l) (ha : U32 last) (k : Nat) (hk : 3000 ≤ k) : patchbayref3_Chosen.f k l last = some (chs l last) := by
  unfold patchbayref3_Chosen.f
  rw [w64 (by omega)]
  have := rfi_l l last (by omega) hw ha l.length k (Nat.le_refl _) (by omega)
  rw [List.drop_length, fi] at this
  exact this
theorem pchoose_l (l : List S77) (last : Int) (hl : l.length ≤ 256) (hw : Wf l) (d : Nat) : ∀ (k i : Nat), l.length - i = d → i ≤ l.length → d + 2000 ≤ k →
    sack_Choose.l0 k l last l l.length i = some (if allr (l.drop i) = true then (chs l last, 0) else ([], 10)) := by
  induction d with
  | zero =>
    intro k i hd hi hk
    obtain ⟨k, rfl⟩ : ∃ m, k = m + 1 := ⟨k - 1, by omega⟩
    rw [sack_Choose.l0, if_neg (by omega), List.drop_eq_nil_of_le (by omega), allr, if_pos rfl]
    exact pfi_l l last (by omega) l.length k 0 rfl (by omega) (by omega) (by rw [List.drop_zero])
  | succ d ih =>
    intro k i hd hi hk
    obtain ⟨k, rfl⟩ : ∃ m, k = m + 1 := ⟨k - 1, by omega⟩
    have hwf := wf_rd hw i (by omega)
    rw [sack_Choose.l0, if_pos (by omega), if_pos (by omega), if_pos (by omega), sdiff_v _ _ hwf.2 hwf.1, Option.bind_some, drop_cons' l i (by omega), allr]
    by_cases h1 : sd (rd_T77 l i).f1 (rd_T77 l i).f0 ≤ 0
    · rw [if_pos h1, if_pos h1, if_neg (by decide)]
    · rw [if_neg h1, if_neg h1, show wrap64 ((i : Int) + 1) = ((i + 1 : Nat) : Int) from by rw [w64 (by omega)]; omega]
      exact ih k (i + 1) (by omega) (by omega) (by omega)
theorem pchoose_v (l : List S77) (last : Int) (hw : Wf l) (k : Nat) (hk : 3000 ≤ k) : sack_Choose.f k l last = some (if chE l = 0 then chs l last else [], chE l) := by
  unfold sack_Choose.f chE
  by_cases h : l.length > 256
  · rw [if_pos (by omega), if_pos h, if_neg (by omega)]
  · rw [if_neg (by omega), if_neg h]
    have := pchoose_l l last (by omega) hw l.length k 0 rfl (by omega) (by omega)
    rw [List.drop_zero, show ((0 : Nat) : Int) = 0 from rfl] at this
    rw [this]
    by_cases h2 : allr l = true
    · rw [if_pos h2, if_pos h2, if_pos rfl]
    · rw [if_neg h2, if_neg h2, if_neg (by decide)]

/-! The law. -/
theorem fact_v (k : Nat) (hk : 3000 ≤ k) : patchbaylaw3_sackFact.f k = some true := by
  unfold patchbaylaw3_sackFact.f
  rw [pchoose_v _ _ (by intro b hb; simp at hb; rcases hb with rfl | rfl <;> exact ⟨⟨by decide, by decide⟩, ⟨by decide, by decide⟩⟩) k hk]
  rfl

end Go.Proofs.Ytjiiejeldgkdiaa.Sack
