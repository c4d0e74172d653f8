/- Proved: the values of the functions on segments, as plain numbers and lists. No condition beside the bounds of their kinds. -/
import Derived.Test.YtjiiejeldgkdiaaSegBits
import Derived.Test.YtjiiejeldgkdiaaStreamLaw
set_option linter.unusedVariables false
set_option linter.unusedSimpArgs false
namespace Go.Proofs.Ytjiiejeldgkdiaa.Stream
open Go.RowKit Go.Proofs.Ytjiiejeldgkdiaa.PStreamRefuses Go.Proofs.YtjiiejeldgkdiaaW.PrintWords Go.Proofs.YtjiiejeldgkdiaaW.PrintLast Go.Proofs.YtjiiejeldgkdiaaW.PrintMore Go.Proofs.Ytjiiejeldgkdiaa.SegBits

theorem w64 {n : Int} (h : -9223372036854775808 ≤ n ∧ n ≤ 9223372036854775807) : wrap64 n = n := by unfold wrap64; omega
theorem tm (n : Int) : Int.tmod n 4294967296 = if 0 ≤ n then n % 4294967296 else -(-n % 4294967296) := by
  by_cases h : 0 ≤ n
  · rw [if_pos h]; exact Int.tmod_eq_emod_of_nonneg h
  · rw [if_neg h]
    have e : Int.tmod (-(-n)) 4294967296 = -(Int.tmod (-n) 4294967296) := Int.neg_tmod _ _
    rw [Int.neg_neg] at e
    rw [e, Int.tmod_eq_emod_of_nonneg (by omega)]
theorem round_v (n : Int) (h : -9223372036854775808 ≤ n ∧ n ≤ 9223372036854775807) : patchbayref3_Round.f n = some (n % 4294967296) := by
  unfold patchbayref3_Round.f
  rw [tm]
  by_cases h0 : 0 ≤ n
  · simp only [h0, if_true]
    rw [if_neg (by omega)]
  · simp only [h0, if_false]
    by_cases h1 : -(-n % 4294967296) < 0
    · rw [if_pos h1]; congr 1; unfold wrap64; omega
    · rw [if_neg h1]; congr 1; omega
def sd (a b : Int) : Int := (a - b + 2147483648) % 4294967296 - 2147483648
def U32 (a : Int) : Prop := 0 ≤ a ∧ a < 4294967296
theorem sdiff_v (a b : Int) (ha : U32 a) (hb : U32 b) : seq_Diff.f a b = some (sd a b) := by
  unfold U32 at ha hb; unfold seq_Diff.f sd wrap64 wrap32; congr 1; omega
theorem rdiff_v (a b : Int) (ha : U32 a) (hb : U32 b) : patchbayref3_Diff.f a b = some (sd a b) := by
  unfold U32 at ha hb
  unfold patchbayref3_Diff.f
  have e : wrap64 (wrap64 a - wrap64 b) = a - b := by unfold wrap64; omega
  rw [e, round_v _ (by omega)]
  simp only [Option.bind_some, ge_iff_le]
  unfold sd wrap64
  split <;> (congr 1; omega)
theorem sin (a b c : Int) : seg_in.f a b c = some (decide (b ≤ a ∧ a ≤ c)) := by
  unfold seg_in.f; by_cases h : a ≥ b
  · rw [if_pos h]; simp [show b ≤ a from h]
  · rw [if_neg h]; simp [show ¬ b ≤ a from h]
theorem rin (a b c : Int) : patchbayref3_In.f a b c = some (decide (b ≤ a ∧ a ≤ c)) := by
  unfold patchbayref3_In.f; by_cases h : a ≥ b
  · rw [if_pos h]; simp [show b ≤ a from h]
  · rw [if_neg h]; simp [show ¬ b ≤ a from h]

/-- The blocks have numbers of 32 bits. -/
def Wf (l : List S77) : Prop := ∀ b ∈ l, U32 b.f0 ∧ U32 b.f1
def badB (b : S77) : Bool := decide (sd b.f1 b.f0 ≤ 0)
theorem rd_mem (l : List S77) (i : Nat) (h : i < l.length) : rd_T77 l i = l[i] := by
  unfold rd_T77; simp [List.getD, h]
theorem drop_any (l : List S77) (i : Nat) (h : i < l.length) : (l.drop i).any badB = (badB l[i] || (l.drop (i + 1)).any badB) := by
  rw [List.drop_eq_getElem_cons h, List.any_cons]

theorem check_l (l : List S77) (hl : l.length ≤ 1000000) (hw : Wf l) (d : Nat) : ∀ (k i : Nat), l.length - i = d → i ≤ l.length → d < k →
    seg_Check.l0 k l (l.length : Int) i = some (if (l.drop i).any badB then 10 else 0) := by
  induction d with
  | zero =>
    intro k i hd hi hk
    obtain ⟨k, rfl⟩ : ∃ m, k = m + 1 := ⟨k - 1, by omega⟩
    simp only [seg_Check.l0]
    rw [if_neg (by omega), List.drop_eq_nil_of_le (by omega)]
    rfl
  | succ d ih =>
    intro k i hd hi hk
    obtain ⟨k, rfl⟩ : ∃ m, k = m + 1 := ⟨k - 1, by omega⟩
    have hlt : i < l.length := by omega
    simp only [seg_Check.l0]
    rw [if_pos (by omega), if_pos (by omega), if_pos (by omega), rd_mem l i hlt]
    have hb := hw l[i] (List.getElem_mem hlt)
    rw [sdiff_v _ _ hb.2 hb.1, drop_any l i hlt]
    simp only [Option.bind_some, badB]
    by_cases h : sd l[i].f1 l[i].f0 ≤ 0
    · rw [if_pos h]; simp [h]
    · rw [if_neg h, show wrap64 ((i : Int) + 1) = ((i + 1 : Nat) : Int) from by unfold wrap64; omega, ih k (i + 1) (by omega) (by omega) (by omega)]
      simp [h]
theorem fault_l (l : List S77) (hl : l.length ≤ 1000000) (hw : Wf l) (a b c e f g : Int) (s : ByteArray) (d : Nat) : ∀ (k i : Nat), l.length - i = d → i ≤ l.length → d < k →
    patchbayref3_SegFault.l0 k i a b c e f g l s = some (if (l.drop i).any badB then 10 else 0) := by
  induction d with
  | zero =>
    intro k i hd hi hk
    obtain ⟨k, rfl⟩ : ∃ m, k = m + 1 := ⟨k - 1, by omega⟩
    simp only [patchbayref3_SegFault.l0]
    rw [if_neg (by omega), List.drop_eq_nil_of_le (by omega)]
    rfl
  | succ d ih =>
    intro k i hd hi hk
    obtain ⟨k, rfl⟩ : ∃ m, k = m + 1 := ⟨k - 1, by omega⟩
    have hlt : i < l.length := by omega
    simp only [patchbayref3_SegFault.l0]
    rw [if_pos (by omega), if_pos (by omega), rd_mem l i hlt]
    have hb := hw l[i] (List.getElem_mem hlt)
    rw [rdiff_v _ _ hb.2 hb.1, drop_any l i hlt]
    simp only [Option.bind_some, badB]
    by_cases h : sd l[i].f1 l[i].f0 ≤ 0
    · rw [if_pos h]; simp [h]
    · rw [if_neg h, show wrap64 ((i : Int) + 1) = ((i + 1 : Nat) : Int) from by unfold wrap64; omega, ih k (i + 1) (by omega) (by omega) (by omega)]
      simp [h]

/-- The error of a segment. -/
def okF (src dst fl win : Int) : Prop := (0 ≤ src ∧ src ≤ 65535) ∧ (0 ≤ dst ∧ dst ≤ 65535) ∧ ((0 ≤ fl ∧ fl ≤ 23) ∧ fl / 8 % 2 = 0) ∧ (0 ≤ win ∧ win ≤ 65535)
instance (src dst fl win : Int) : Decidable (okF src dst fl win) := by unfold okF; infer_instance
theorem nOk {src dst fl win : Int} (h : ¬ okF src dst fl win) : false = decide (okF src dst fl win) := (decide_eq_false h).symm
def segE (src dst fl win : Int) (l : List S77) (n : Nat) : Int :=
  if okF src dst fl win then (if l.length > 3 ∨ n > 1024 then 2 else (if l.any badB then 10 else 0)) else 1
def I64 (a : Int) : Prop := -9223372036854775808 ≤ a ∧ a ≤ 9223372036854775807

theorem check_v (src dst sq ak fl win : Int) (l : List S77) (s : ByteArray) (hf : I64 fl) (hw : Wf l) (k : Nat) : seg_Check.f (k + 7) src dst sq ak fl win l s = some (segE src dst fl win l s.size) := by
  have last : ∀ b : Bool, b = decide (okF src dst fl win) → seg_Check.j0 (k + 7) (!b) src dst sq ak fl win l s = some (segE src dst fl win l s.size) := by
    rintro b rfl
    simp only [seg_Check.j0]
    unfold segE
    by_cases h : okF src dst fl win
    · rw [if_neg (by simp [h]), if_pos h]
      by_cases h2 : (l.length : Int) > 3
      · rw [if_pos h2]; simp only [seg_Check.j1, if_true]; rw [if_pos (by omega)]
      · rw [if_neg h2]; simp only [seg_Check.j1]
        by_cases h3 : (s.size : Int) > 1024
        · rw [if_pos (by simpa using h3), if_pos (by omega)]
        · rw [if_neg (by simpa using h3), if_neg (by omega)]
          have := check_l l (by omega) hw l.length (k + 5) 0 (by omega) (by omega) (by omega)
          simpa using this
    · rw [if_pos (by simp [h]), if_neg h]
  unfold seg_Check.f
  simp only [sin, Option.bind_some, decide_eq_true_eq]
  by_cases h1 : 0 ≤ src ∧ src ≤ 65535
  · rw [if_pos h1]
    by_cases h2 : 0 ≤ dst ∧ dst ≤ 65535
    · rw [if_pos h2]
      by_cases h3 : bits .andNot .i64 fl 23 = 0
      · rw [if_pos h3]
        have h3' := (andNot23 fl hf.1 hf.2).1 h3
        exact last _ (decide_eq_decide.2 ⟨fun q => ⟨h1, h2, h3', q⟩, fun q => q.2.2.2⟩)
      · rw [if_neg h3]
        have h3' := fun hh => h3 ((andNot23 fl hf.1 hf.2).2 hh)
        exact last false (nOk (by rintro ⟨_, _, q, _⟩; exact h3' q))
    · rw [if_neg h2]; exact last false (nOk (by rintro ⟨_, q, _, _⟩; exact h2 q))
  · rw [if_neg h1]; exact last false (nOk (by rintro ⟨q, _, _, _⟩; exact h1 q))

theorem fault_v (src dst sq ak fl win : Int) (l : List S77) (s : ByteArray) (hf : I64 fl) (hw : Wf l) (k : Nat) : patchbayref3_SegFault.f (k + 7) src dst sq ak fl win l s = some (segE src dst fl win l s.size) := by
  have last : ∀ b : Bool, b = decide (okF src dst fl win) → patchbayref3_SegFault.j0 (k + 7) (!b) src dst sq ak fl win l s = some (segE src dst fl win l s.size) := by
    rintro b rfl
    simp only [patchbayref3_SegFault.j0]
    unfold segE
    by_cases h : okF src dst fl win
    · rw [if_neg (by simp [h]), if_pos h]
      by_cases h2 : (l.length : Int) > 3
      · rw [if_pos h2]; simp only [patchbayref3_SegFault.j1, if_true]; rw [if_pos (by omega)]
      · rw [if_neg h2]; simp only [patchbayref3_SegFault.j1]
        by_cases h3 : (s.size : Int) > 1024
        · rw [if_pos (by simpa using h3), if_pos (by omega)]
        · rw [if_neg (by simpa using h3), if_neg (by omega)]
          have := fault_l l (by omega) hw src dst sq ak fl win s l.length (k + 5) 0 (by omega) (by omega) (by omega)
          simpa using this
    · rw [if_pos (by simp [h]), if_neg h]
  unfold patchbayref3_SegFault.f
  simp only [rin, Option.bind_some, decide_eq_true_eq]
  by_cases h1 : 0 ≤ src ∧ src ≤ 65535
  · rw [if_pos h1]
    by_cases h2 : 0 ≤ dst ∧ dst ≤ 65535
    · rw [if_pos h2]
      by_cases h4 : 0 ≤ win ∧ win ≤ 65535
      · rw [if_pos h4]
        by_cases h3 : 0 ≤ fl ∧ fl ≤ 23
        · rw [if_pos h3]
          have e : Int.tmod (wrap64 (Int.tdiv fl 8)) 2 = fl / 8 % 2 := by
            rw [Int.tdiv_eq_ediv_of_nonneg h3.1, w64 (by omega), Int.tmod_eq_emod_of_nonneg (by omega)]
          rw [e]
          by_cases h5 : fl / 8 % 2 = 0
          · have := last true (decide_eq_true (show okF src dst fl win from ⟨h1, h2, ⟨h3, h5⟩, h4⟩)).symm
            rw [show (fl / 8 % 2 == 1) = false from by rw [h5]; rfl]
            exact this
          · have := last false (nOk (by rintro ⟨_, _, ⟨_, q⟩, _⟩; exact h5 q))
            rw [show (fl / 8 % 2 == 1) = true from by rw [beq_iff_eq]; omega]
            exact this
        · rw [if_neg h3]; exact last false (nOk (by rintro ⟨_, _, ⟨q, _⟩, _⟩; exact h3 q))
      · rw [if_neg h4]; exact last false (nOk (by rintro ⟨_, _, _, q⟩; exact h4 q))
    · rw [if_neg h2]; exact last false (nOk (by rintro ⟨_, q, _, _⟩; exact h2 q))
  · rw [if_neg h1]; exact last false (nOk (by rintro ⟨q, _, _, _⟩; exact h1 q))

theorem segE_zero {src dst fl win : Int} {l : List S77} {n : Nat} (h : segE src dst fl win l n = 0) : okF src dst fl win ∧ l.length ≤ 3 ∧ n ≤ 1024 ∧ l.any badB = false := by
  unfold segE at h
  split at h
  · split at h
    · omega
    · split at h
      · omega
      · refine ⟨by assumption, by omega, by omega, by simp_all⟩
  · omega

theorem same_l (l : List S77) (hl : l.length ≤ 1000000) (d : Nat) : ∀ (k i : Nat), l.length - i = d → i ≤ l.length → d < k → patchbayref3_SameBlocks.l0 k l l i = some true := by
  induction d with
  | zero =>
    intro k i hd hi hk
    obtain ⟨k, rfl⟩ : ∃ m, k = m + 1 := ⟨k - 1, by omega⟩
    simp only [patchbayref3_SameBlocks.l0]
    rw [if_neg (by omega)]
  | succ d ih =>
    intro k i hd hi hk
    obtain ⟨k, rfl⟩ : ∃ m, k = m + 1 := ⟨k - 1, by omega⟩
    simp only [patchbayref3_SameBlocks.l0]
    rw [if_pos (by omega), if_pos (by omega), if_pos (by omega), if_neg (by simp), show wrap64 ((i : Int) + 1) = ((i + 1 : Nat) : Int) from by unfold wrap64; omega]
    exact ih k (i + 1) (by omega) (by omega) (by omega)
theorem same_v (a b c d e f : Int) (l : List S77) (s : ByteArray) (hl : l.length ≤ 1000000) (k : Nat) (hk : l.length < k) : patchbayref3_SameSeg.f k a b c d e f l s a b c d e f l s = some true := by
  unfold patchbayref3_SameSeg.f patchbayref3_SameBlocks.f
  have := same_l l hl l.length k 0 (by omega) (by omega) hk
  have h0 : patchbayref3_SameBlocks.l0 k l l 0 = some true := by simpa using this
  simp [h0]

theorem tmod2 (x : Int) (h : 0 ≤ x) : Int.tmod x 2 = x % 2 := Int.tmod_eq_emod_of_nonneg h
theorem len_v (src dst sq ak fl win : Int) (l : List S77) (s : ByteArray) (hf : 0 ≤ fl ∧ fl ≤ 23) (hs : s.size ≤ 1024) :
    seg_Length.f src dst sq ak fl win l s = some ((s.size : Int) + fl % 2 + fl / 2 % 2) := by
  unfold seg_Length.f
  rw [and2 fl hf.1 hf.2, and1 fl hf.1 hf.2, w64 (n := (s.size : Int) + 1) (by omega), w64 (n := (s.size : Int) + 1 + 1) (by omega)]
  repeat' split
  all_goals (congr 1; omega)

theorem refuse_no (src dst sq ak fl win : Int) (l : List S77) (s : ByteArray) (hf : I64 fl) (hw : Wf l) (h : segE src dst fl win l s.size ≠ 0 ∨ fl / 4 % 2 = 1) (hE : segE src dst fl win l s.size = 0 → 0 ≤ fl ∧ fl ≤ 23) (k : Nat) :
    stream_Refuse.f (k + 7) src dst sq ak fl win l s = some (0, 0, 0, 0, 0, 0, [], ⟨#[]⟩, false) := by
  unfold stream_Refuse.f
  rw [check_v src dst sq ak fl win l s hf hw k]
  simp only [Option.bind_some]
  by_cases h0 : segE src dst fl win l s.size = 0
  · rw [if_pos h0]
    have hb := hE h0
    have h4 : fl / 4 % 2 = 1 := h.resolve_left (fun q => q h0)
    have : (bits .and .i64 fl 4 != 0) = true := by rw [bne_iff_ne, and4 fl hb.1 hb.2]; omega
    rw [this]
    simp only [stream_Refuse.j0, if_true]
  · rw [if_neg h0]
    simp only [stream_Refuse.j0, if_true]

theorem refuse_yes (src dst sq ak fl win : Int) (l : List S77) (s : ByteArray) (hf : I64 fl) (hw : Wf l) (hq : U32 sq) (h : segE src dst fl win l s.size = 0) (h4 : fl / 4 % 2 = 0) (k : Nat) :
    stream_Refuse.f (k + 7) src dst sq ak fl win l s = some (dst, src, if fl / 16 = 1 then ak else 0, (sq + ((s.size : Int) + fl % 2 + fl / 2 % 2)) % 4294967296, 20, 0, [], ⟨#[]⟩, true) := by
  obtain ⟨⟨_, _, ⟨hb, _⟩, _⟩, _, hs, _⟩ := segE_zero h
  unfold U32 at hq
  unfold stream_Refuse.f
  rw [check_v src dst sq ak fl win l s hf hw k]
  simp only [Option.bind_some]
  rw [if_pos h]
  have : (bits .and .i64 fl 4 != 0) = false := by rw [bne_eq_false_iff_eq, and4 fl hb.1 hb.2]; omega
  rw [this]
  simp only [stream_Refuse.j0, Bool.false_eq_true, if_false]
  rw [len_v _ _ _ _ _ _ _ _ hb hs]
  simp only [Option.bind_some]
  unfold seq_Add.f
  simp only [Option.bind_some]
  rw [and16 fl hb.1 hb.2]
  have e : (sq + ((s.size : Int) + fl % 2 + fl / 2 % 2) % 4294967296) % 4294967296 = (sq + ((s.size : Int) + fl % 2 + fl / 2 % 2)) % 4294967296 := by omega
  rw [e]
  by_cases h16 : fl / 16 = 1
  · rw [if_neg (by omega), if_pos h16]
  · rw [if_pos (by omega), if_neg h16]

theorem sfact (k : Nat) : stream_Refuse.f (k + 7) 1 2 7 0 2 0 [] ⟨#[]⟩ = some (2, 1, 0, 8, 20, 0, [], ⟨#[]⟩, true) := by
  have h := refuse_yes 1 2 7 0 2 0 [] ⟨#[]⟩ (by unfold I64; omega) (by intro b hb; cases hb) (by unfold U32; omega) (by decide) (by decide) k
  rw [h]; rfl

theorem law (src dst sq ak fl win : Int) (l : List S77) (s : ByteArray) (hf : I64 fl) (hw : Wf l) (hq : U32 sq) :
    patchbaylaw3_StreamRefuses.f 11 src dst sq ak fl win l s = some true := by
  unfold patchbaylaw3_StreamRefuses.f
  rw [sfact 4]
  simp only [Option.bind_some, if_true]
  rw [show ((8 : Int) != 8) = false from by decide]
  simp only [patchbaylaw3_StreamRefuses.j0, Bool.false_eq_true, if_false]
  rw [fault_v src dst sq ak fl win l s hf hw 3]
  simp only [Option.bind_some]
  have z0 : patchbayref3_SameSeg.f 9 0 0 0 0 0 0 [] ⟨#[]⟩ 0 0 0 0 0 0 [] ⟨#[]⟩ = some true := same_v _ _ _ _ _ _ _ _ (by simp) 9 (by simp)
  by_cases h : segE src dst fl win l s.size = 0
  · rw [if_pos h]
    obtain ⟨⟨_, _, ⟨hb, _⟩, _⟩, _, hs', _⟩ := segE_zero h
    have e4 : Int.tmod (wrap64 (Int.tdiv fl 4)) 2 = fl / 4 % 2 := by
      rw [Int.tdiv_eq_ediv_of_nonneg hb.1, w64 (by omega), tmod2 _ (by omega)]
    rw [e4]
    by_cases h4 : fl / 4 % 2 = 0
    · rw [show (fl / 4 % 2 == 0) = true from by rw [h4]; rfl]
      simp only [patchbaylaw3_StreamRefuses.j1, if_true]
      have eL : wrap64 (wrap64 sq + wrap64 (wrap64 ((s.size : Int) + Int.tmod fl 2) + Int.tmod (wrap64 (Int.tdiv fl 2)) 2)) = sq + ((s.size : Int) + fl % 2 + fl / 2 % 2) := by
        unfold U32 at hq
        rw [Int.tdiv_eq_ediv_of_nonneg hb.1, w64 (n := fl / 2) (by omega), tmod2 _ hb.1, tmod2 _ (by omega)]
        unfold wrap64; omega
      rw [eL, round_v _ (by unfold U32 at hq; omega)]
      simp only [Option.bind_some]
      have e16 : wrap64 (Int.tdiv fl 16) = fl / 16 := by rw [Int.tdiv_eq_ediv_of_nonneg hb.1, w64 (by omega)]
      rw [e16, refuse_yes src dst sq ak fl win l s hf hw hq h h4 2]
      simp only [Option.bind_some]
      have em : ∀ z : Int, z % 4294967296 % 4294967296 = z % 4294967296 := by intro z; omega
      by_cases h16 : fl / 16 = 1
      · rw [if_pos h16, if_pos (by rfl), em, if_pos h16]
        rw [same_v _ _ _ _ _ _ _ _ (by simp) 9 (by simp)]
        rfl
      · rw [if_neg h16, if_pos (by rfl), em, if_neg h16]
        rw [same_v _ _ _ _ _ _ _ _ (by simp) 9 (by simp)]
        rfl
    · rw [show (fl / 4 % 2 == 0) = false from by rw [beq_eq_false_iff_ne]; exact h4]
      simp only [patchbaylaw3_StreamRefuses.j1, Bool.false_eq_true, if_false]
      rw [refuse_no src dst sq ak fl win l s hf hw (.inr (by omega)) (fun _ => hb) 2]
      simp only [Option.bind_some]
      rw [if_pos (by rfl), z0]
      rfl
  · rw [if_neg h]
    simp only [patchbaylaw3_StreamRefuses.j1, Bool.false_eq_true, if_false]
    rw [refuse_no src dst sq ak fl win l s hf hw (.inl h) (fun q => absurd q h) 2]
    simp only [Option.bind_some]
    rw [if_pos (by rfl), z0]
    rfl

end Go.Proofs.Ytjiiejeldgkdiaa.Stream
