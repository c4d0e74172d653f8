/- Proved: the values of the functions on segments, as plain numbers and lists. No condition beside the bounds of their kinds. -/
import Derived.Test.YtjiiejeldgkdiaaZSegBits
import Derived.Test.YtjiiejeldgkdiaaZBytes
import Derived.Test.YtjiiejeldgkdiaaZSegLaw
set_option linter.unusedVariables false
set_option linter.unusedSimpArgs false
namespace Go.Proofs.Ytjiiejeldgkdiaa.Seg
open Go.RowKit Go.Proofs.Ytjiiejeldgkdiaa.PSegSays Go.Proofs.YtjiiejeldgkdiaaW.PrintWords Go.Proofs.YtjiiejeldgkdiaaW.PrintLast Go.Proofs.YtjiiejeldgkdiaaW.PrintMore Go.Proofs.Ytjiiejeldgkdiaa.SegBits Go.Proofs.Ytjiiejeldgkdiaa.Bytes

theorem w64 {n : Int} (h : -9223372036854775808 ≤ n ∧ n ≤ 9223372036854775807) : wrap64 n = n := by unfold wrap64; omega
theorem tm (n : Int) : Int.tmod n 4294967296 = if 0 ≤ n then n % 4294967296 else -(-n % 4294967296) := by
  by_cases h : 0 ≤ n
  · rw [if_pos h]; exact Int.tmod_eq_emod_of_nonneg h
  · rw [if_neg h]
    have e : Int.tmod (-(-n)) 4294967296 = -(Int.tmod (-n) 4294967296) := Int.neg_tmod _ _
    rw [Int.neg_neg] at e
    rw [e, Int.tmod_eq_emod_of_nonneg (by omega)]
theorem round_v (n : Int) (h : -9223372036854775808 ≤ n ∧ n ≤ 9223372036854775807) : patchbayref3_Round.f n = some (n % 4294967296) := by
  unfold patchbayref3_Round.f
  rw [tm]
  by_cases h0 : 0 ≤ n
  · simp only [h0, if_true]
    rw [if_neg (by omega)]
  · simp only [h0, if_false]
    by_cases h1 : -(-n % 4294967296) < 0
    · rw [if_pos h1]; congr 1; unfold wrap64; omega
    · rw [if_neg h1]; congr 1; omega
def sd (a b : Int) : Int := (a - b + 2147483648) % 4294967296 - 2147483648
def U32 (a : Int) : Prop := 0 ≤ a ∧ a < 4294967296
theorem sdiff_v (a b : Int) (ha : U32 a) (hb : U32 b) : seq_Diff.f a b = some (sd a b) := by
  unfold U32 at ha hb; unfold seq_Diff.f sd wrap64 wrap32; congr 1; omega
theorem rdiff_v (a b : Int) (ha : U32 a) (hb : U32 b) : patchbayref3_Diff.f a b = some (sd a b) := by
  unfold U32 at ha hb
  unfold patchbayref3_Diff.f
  have e : wrap64 (wrap64 a - wrap64 b) = a - b := by unfold wrap64; omega
  rw [e, round_v _ (by omega)]
  simp only [Option.bind_some, ge_iff_le]
  unfold sd wrap64
  split <;> (congr 1; omega)
theorem sin (a b c : Int) : seg_in.f a b c = some (decide (b ≤ a ∧ a ≤ c)) := by
  unfold seg_in.f; by_cases h : a ≥ b
  · rw [if_pos h]; simp [show b ≤ a from h]
  · rw [if_neg h]; simp [show ¬ b ≤ a from h]
theorem rin (a b c : Int) : patchbayref3_In.f a b c = some (decide (b ≤ a ∧ a ≤ c)) := by
  unfold patchbayref3_In.f; by_cases h : a ≥ b
  · rw [if_pos h]; simp [show b ≤ a from h]
  · rw [if_neg h]; simp [show ¬ b ≤ a from h]

/-- The blocks have numbers of 32 bits. -/
def Wf (l : List S77) : Prop := ∀ b ∈ l, U32 b.f0 ∧ U32 b.f1
def badB (b : S77) : Bool := decide (sd b.f1 b.f0 ≤ 0)
theorem rd_mem (l : List S77) (i : Nat) (h : i < l.length) : rd_T77 l i = l[i] := by
  unfold rd_T77; simp [List.getD, h]
theorem drop_any (l : List S77) (i : Nat) (h : i < l.length) : (l.drop i).any badB = (badB l[i] || (l.drop (i + 1)).any badB) := by
  rw [List.drop_eq_getElem_cons h, List.any_cons]

theorem check_l (l : List S77) (hl : l.length ≤ 1000000) (hw : Wf l) (d : Nat) : ∀ (k i : Nat), l.length - i = d → i ≤ l.length → d < k →
    seg_Check.l0 k l (l.length : Int) i = some (if (l.drop i).any badB then 10 else 0) := by
  induction d with
  | zero =>
    intro k i hd hi hk
    obtain ⟨k, rfl⟩ : ∃ m, k = m + 1 := ⟨k - 1, by omega⟩
    simp only [seg_Check.l0]
    rw [if_neg (by omega), List.drop_eq_nil_of_le (by omega)]
    rfl
  | succ d ih =>
    intro k i hd hi hk
    obtain ⟨k, rfl⟩ : ∃ m, k = m + 1 := ⟨k - 1, by omega⟩
    have hlt : i < l.length := by omega
    simp only [seg_Check.l0]
    rw [if_pos (by omega), if_pos (by omega), if_pos (by omega), rd_mem l i hlt]
    have hb := hw l[i] (List.getElem_mem hlt)
    rw [sdiff_v _ _ hb.2 hb.1, drop_any l i hlt]
    simp only [Option.bind_some, badB]
    by_cases h : sd l[i].f1 l[i].f0 ≤ 0
    · rw [if_pos h]; simp [h]
    · rw [if_neg h, show wrap64 ((i : Int) + 1) = ((i + 1 : Nat) : Int) from by unfold wrap64; omega, ih k (i + 1) (by omega) (by omega) (by omega)]
      simp [h]
theorem fault_l (l : List S77) (hl : l.length ≤ 1000000) (hw : Wf l) (a b c e f g : Int) (s : ByteArray) (d : Nat) : ∀ (k i : Nat), l.length - i = d → i ≤ l.length → d < k →
    patchbayref3_SegFault.l0 k i a b c e f g l s = some (if (l.drop i).any badB then 10 else 0) := by
  induction d with
  | zero =>
    intro k i hd hi hk
    obtain ⟨k, rfl⟩ : ∃ m, k = m + 1 := ⟨k - 1, by omega⟩
    simp only [patchbayref3_SegFault.l0]
    rw [if_neg (by omega), List.drop_eq_nil_of_le (by omega)]
    rfl
  | succ d ih =>
    intro k i hd hi hk
    obtain ⟨k, rfl⟩ : ∃ m, k = m + 1 := ⟨k - 1, by omega⟩
    have hlt : i < l.length := by omega
    simp only [patchbayref3_SegFault.l0]
    rw [if_pos (by omega), if_pos (by omega), rd_mem l i hlt]
    have hb := hw l[i] (List.getElem_mem hlt)
    rw [rdiff_v _ _ hb.2 hb.1, drop_any l i hlt]
    simp only [Option.bind_some, badB]
    by_cases h : sd l[i].f1 l[i].f0 ≤ 0
    · rw [if_pos h]; simp [h]
    · rw [if_neg h, show wrap64 ((i : Int) + 1) = ((i + 1 : Nat) : Int) from by unfold wrap64; omega, ih k (i + 1) (by omega) (by omega) (by omega)]
      simp [h]

/-- The error of a segment. -/
def okF (src dst fl win : Int) : Prop := (0 ≤ src ∧ src ≤ 65535) ∧ (0 ≤ dst ∧ dst ≤ 65535) ∧ ((0 ≤ fl ∧ fl ≤ 23) ∧ fl / 8 % 2 = 0) ∧ (0 ≤ win ∧ win ≤ 65535)
instance (src dst fl win : Int) : Decidable (okF src dst fl win) := by unfold okF; infer_instance
theorem nOk {src dst fl win : Int} (h : ¬ okF src dst fl win) : false = decide (okF src dst fl win) := (decide_eq_false h).symm
def segE (src dst fl win : Int) (l : List S77) (n : Nat) : Int :=
  if okF src dst fl win then (if l.length > 3 ∨ n > 1024 then 2 else (if l.any badB then 10 else 0)) else 1
def I64 (a : Int) : Prop := -9223372036854775808 ≤ a ∧ a ≤ 9223372036854775807

theorem check_v (src dst sq ak fl win : Int) (l : List S77) (s : ByteArray) (hf : I64 fl) (hw : Wf l) (k : Nat) : seg_Check.f (k + 7) src dst sq ak fl win l s = some (segE src dst fl win l s.size) := by
  have last : ∀ b : Bool, b = decide (okF src dst fl win) → seg_Check.j0 (k + 7) (!b) src dst sq ak fl win l s = some (segE src dst fl win l s.size) := by
    rintro b rfl
    simp only [seg_Check.j0]
    unfold segE
    by_cases h : okF src dst fl win
    · rw [if_neg (by simp [h]), if_pos h]
      by_cases h2 : (l.length : Int) > 3
      · rw [if_pos h2]; simp only [seg_Check.j1, if_true]; rw [if_pos (by omega)]
      · rw [if_neg h2]; simp only [seg_Check.j1]
        by_cases h3 : (s.size : Int) > 1024
        · rw [if_pos (by simpa using h3), if_pos (by omega)]
        · rw [if_neg (by simpa using h3), if_neg (by omega)]
          have := check_l l (by omega) hw l.length (k + 5) 0 (by omega) (by omega) (by omega)
          simpa using this
    · rw [if_pos (by simp [h]), if_neg h]
  unfold seg_Check.f
  simp only [sin, Option.bind_some, decide_eq_true_eq]
  by_cases h1 : 0 ≤ src ∧ src ≤ 65535
  · rw [if_pos h1]
    by_cases h2 : 0 ≤ dst ∧ dst ≤ 65535
    · rw [if_pos h2]
      by_cases h3 : bits .andNot .i64 fl 23 = 0
      · rw [if_pos h3]
        have h3' := (andNot23 fl hf.1 hf.2).1 h3
        exact last _ (decide_eq_decide.2 ⟨fun q => ⟨h1, h2, h3', q⟩, fun q => q.2.2.2⟩)
      · rw [if_neg h3]
        have h3' := fun hh => h3 ((andNot23 fl hf.1 hf.2).2 hh)
        exact last false (nOk (by rintro ⟨_, _, q, _⟩; exact h3' q))
    · rw [if_neg h2]; exact last false (nOk (by rintro ⟨_, q, _, _⟩; exact h2 q))
  · rw [if_neg h1]; exact last false (nOk (by rintro ⟨q, _, _, _⟩; exact h1 q))

theorem fault_v (src dst sq ak fl win : Int) (l : List S77) (s : ByteArray) (hf : I64 fl) (hw : Wf l) (k : Nat) : patchbayref3_SegFault.f (k + 7) src dst sq ak fl win l s = some (segE src dst fl win l s.size) := by
  have last : ∀ b : Bool, b = decide (okF src dst fl win) → patchbayref3_SegFault.j0 (k + 7) (!b) src dst sq ak fl win l s = some (segE src dst fl win l s.size) := by
    rintro b rfl
    simp only [patchbayref3_SegFault.j0]
    unfold segE
    by_cases h : okF src dst fl win
    · rw [if_neg (by simp [h]), if_pos h]
      by_cases h2 : (l.length : Int) > 3
      · rw [if_pos h2]; simp only [patchbayref3_SegFault.j1, if_true]; rw [if_pos (by omega)]
      · rw [if_neg h2]; simp only [patchbayref3_SegFault.j1]
        by_cases h3 : (s.size : Int) > 1024
        · rw [if_pos (by simpa using h3), if_pos (by omega)]
        · rw [if_neg (by simpa using h3), if_neg (by omega)]
          have := fault_l l (by omega) hw src dst sq ak fl win s l.length (k + 5) 0 (by omega) (by omega) (by omega)
          simpa using this
    · rw [if_pos (by simp [h]), if_neg h]
  unfold patchbayref3_SegFault.f
  simp only [rin, Option.bind_some, decide_eq_true_eq]
  by_cases h1 : 0 ≤ src ∧ src ≤ 65535
  · rw [if_pos h1]
    by_cases h2 : 0 ≤ dst ∧ dst ≤ 65535
    · rw [if_pos h2]
      by_cases h4 : 0 ≤ win ∧ win ≤ 65535
      · rw [if_pos h4]
        by_cases h3 : 0 ≤ fl ∧ fl ≤ 23
        · rw [if_pos h3]
          have e : Int.tmod (wrap64 (Int.tdiv fl 8)) 2 = fl / 8 % 2 := by
            rw [Int.tdiv_eq_ediv_of_nonneg h3.1, w64 (by omega), Int.tmod_eq_emod_of_nonneg (by omega)]
          rw [e]
          by_cases h5 : fl / 8 % 2 = 0
          · have := last true (decide_eq_true (show okF src dst fl win from ⟨h1, h2, ⟨h3, h5⟩, h4⟩)).symm
            rw [show (fl / 8 % 2 == 1) = false from by rw [h5]; rfl]
            exact this
          · have := last false (nOk (by rintro ⟨_, _, ⟨_, q⟩, _⟩; exact h5 q))
            rw [show (fl / 8 % 2 == 1) = true from by rw [beq_iff_eq]; omega]
            exact this
        · rw [if_neg h3]; exact last false (nOk (by rintro ⟨_, _, ⟨q, _⟩, _⟩; exact h3 q))
      · rw [if_neg h4]; exact last false (nOk (by rintro ⟨_, _, _, q⟩; exact h4 q))
    · rw [if_neg h2]; exact last false (nOk (by rintro ⟨_, q, _, _⟩; exact h2 q))
  · rw [if_neg h1]; exact last false (nOk (by rintro ⟨q, _, _, _⟩; exact h1 q))

theorem segE_zero {src dst fl win : Int} {l : List S77} {n : Nat} (h : segE src dst fl win l n = 0) : okF src dst fl win ∧ l.length ≤ 3 ∧ n ≤ 1024 ∧ l.any badB = false := by
  unfold segE at h
  split at h
  · split at h
    · omega
    · split at h
      · omega
      · refine ⟨by assumption, by omega, by omega, by simp_all⟩
  · omega

theorem same_l (l : List S77) (hl : l.length ≤ 1000000) (d : Nat) : ∀ (k i : Nat), l.length - i = d → i ≤ l.length → d < k → patchbayref3_SameBlocks.l0 k l l i = some true := by
  induction d with
  | zero =>
    intro k i hd hi hk
    obtain ⟨k, rfl⟩ : ∃ m, k = m + 1 := ⟨k - 1, by omega⟩
    simp only [patchbayref3_SameBlocks.l0]
    rw [if_neg (by omega)]
  | succ d ih =>
    intro k i hd hi hk
    obtain ⟨k, rfl⟩ : ∃ m, k = m + 1 := ⟨k - 1, by omega⟩
    simp only [patchbayref3_SameBlocks.l0]
    rw [if_pos (by omega), if_pos (by omega), if_pos (by omega), if_neg (by simp), show wrap64 ((i : Int) + 1) = ((i + 1 : Nat) : Int) from by unfold wrap64; omega]
    exact ih k (i + 1) (by omega) (by omega) (by omega)
theorem same_v (a b c d e f : Int) (l : List S77) (s : ByteArray) (hl : l.length ≤ 1000000) (k : Nat) (hk : l.length < k) : patchbayref3_SameSeg.f k a b c d e f l s a b c d e f l s = some true := by
  unfold patchbayref3_SameSeg.f patchbayref3_SameBlocks.f
  have := same_l l hl l.length k 0 (by omega) (by omega) hk
  have h0 : patchbayref3_SameBlocks.l0 k l l 0 = some true := by simpa using this
  simp [h0]

theorem tmodn (x : Int) (m : Int) (h : 0 ≤ x) : Int.tmod x m = x % m := Int.tmod_eq_emod_of_nonneg h

/-- The folding of a sum. -/
theorem fold_one (k : Nat) (n : Int) (h : 65535 < n) (h2 : n < 9223372036854775808) : seg_Sum.l1 (k + 1) n = seg_Sum.l1 k (n % 65536 + n / 65536) := by
  simp only [seg_Sum.l1]
  rw [if_pos h, and_mask n (by omega) h2, w64 (by omega)]
theorem fold_end (k : Nat) (n : Int) (h : 0 ≤ n) (h2 : n ≤ 65535) : seg_Sum.l1 (k + 1) n = some (65535 - Fo n) := by
  simp only [seg_Sum.l1]
  rw [if_neg (by omega), w64 (by omega), Fo_small n h h2]
theorem fold_v : ∀ (j : Nat) (k : Nat) (n : Int), 0 ≤ n → n < 9223372036854775808 → (n ≤ 65535 ∨ (n ≤ 131070 ∧ 2 ≤ j) ∨ (n ≤ 4294967295 ∧ 3 ≤ j) ∨ (n ≤ 281470681743360 ∧ 4 ≤ j) ∨ 5 ≤ j) → seg_Sum.l1 (k + j + 1) n = some (65535 - Fo n)
  | 0, k, n, h0, h1, hj => fold_end _ n h0 (by omega)
  | j + 1, k, n, h0, h1, hj => by
    by_cases h : n ≤ 65535
    · exact fold_end _ n h0 h
    · rw [show k + (j + 1) + 1 = (k + j + 1) + 1 from by omega, fold_one _ n (by omega) h1, fold_v j k (n % 65536 + n / 65536) (by omega) (by omega) (by omega), Fo_step n (by omega)]

theorem sum_l (s : ByteArray) (hs : s.size ≤ 140737488356000) (d : Nat) : ∀ (k i : Nat) (a : Int), s.size - i = d → i ≤ s.size → 0 ≤ a → a ≤ 65280 * i →
    seg_Sum.l0 (k + d + 8) s a i = some (65535 - Fo (a + Sp (i % 2 == 0) (s.data.toList.drop i))) := by
  induction d with
  | zero =>
    intro k i a hd hi h0 h1
    simp only [seg_Sum.l0]
    rw [if_neg (by omega), List.drop_eq_nil_of_le (by rw [← size_eq]; omega)]
    simp only [Sp]
    have := fold_v 6 k a h0 (by omega) (by omega)
    simpa using this
  | succ d ih =>
    intro k i a hd hi h0 h1
    rw [show k + (d + 1) + 8 = (k + d + 8) + 1 from by omega]
    have hl : i < s.data.toList.length := by rw [← size_eq]; omega
    have hc := u8_lt (s.data.toList.getD i 0)
    rw [seg_Sum.l0, if_pos (by omega), tmodn _ _ (by omega), Sp_drop _ _ hl, bt_eq, w64 (n := ((s.data.toList.getD i 0).toNat : Int)) (by omega)]
    rw [show wrap64 ((i : Int) + 1) = ((i + 1 : Nat) : Int) from by unfold wrap64; omega]
    by_cases hp : i % 2 = 0
    · rw [if_pos (by omega), if_pos (by omega), w64 (n := ((s.data.toList.getD i 0).toNat : Int) * 256) (by omega), w64 (by omega), ih k (i + 1) _ (by omega) (by omega) (by omega) (by omega)]
      rw [show (i % 2 == 0) = true from by simp [hp], show ((i + 1) % 2 == 0) = !true from by simp; omega]
      simp only [if_true]
      congr 2
      congr 1
      omega
    · rw [if_neg (by omega), if_pos (by omega), w64 (by omega), ih k (i + 1) _ (by omega) (by omega) (by omega) (by omega)]
      rw [show (i % 2 == 0) = false from by simp; omega, show ((i + 1) % 2 == 0) = !false from by simp; omega]
      simp only [Bool.false_eq_true, if_false]
      congr 2
      congr 1
      omega
/-- The checksum. -/
def ck (s : ByteArray) : Int := 65535 - Fo (Sp true s.data.toList)
theorem ck_bd (s : ByteArray) : 0 ≤ ck s ∧ ck s ≤ 65535 := by
  have := Fo_bd (Sp true s.data.toList) (by omega)
  unfold ck; omega
theorem sum_v (s : ByteArray) (hs : s.size ≤ 140737488356000) (k : Nat) : seg_Sum.f (k + s.size + 8) s = some (ck s) := by
  have := sum_l s hs s.size k 0 0 (by omega) (by omega) (by omega) (by omega)
  unfold seg_Sum.f ck
  simpa using this

theorem rsum_l (s : ByteArray) (hs : s.size ≤ 140737488356000) (d : Nat) : ∀ (k i : Nat) (a : Int) (z : Bool), s.size - i = d → i ≤ s.size → 0 ≤ a → a ≤ 65280 * i → z = decide (a = 0) →
    patchbayref3_Sum.l0 (k + d + 1) s a z i = some (65535 - Fo (a + Sp (i % 2 == 0) (s.data.toList.drop i))) := by
  induction d with
  | zero =>
    intro k i a z hd hi h0 h1 hz
    simp only [patchbayref3_Sum.l0]
    rw [if_neg (by omega), List.drop_eq_nil_of_le (by rw [← size_eq]; omega), tmodn _ _ h0]
    simp only [Sp]
    subst hz
    unfold Fo
    by_cases h : a % 65535 = 0
    · rw [if_pos h]
      by_cases ha : a = 0
      · subst ha; simp [wrap64]
      · rw [if_neg (by simp [ha])]
        congr 1
        rw [if_neg (by omega)]
        omega
    · rw [if_neg h, w64 (by omega)]
      congr 1
      rw [if_neg (by omega)]
      omega
  | succ d ih =>
    intro k i a z hd hi h0 h1 hz
    rw [show k + (d + 1) + 1 = (k + d + 1) + 1 from by omega]
    have hl : i < s.data.toList.length := by rw [← size_eq]; omega
    have hc := u8_lt (s.data.toList.getD i 0)
    rw [patchbayref3_Sum.l0, if_pos (by omega), if_pos (by omega), tmodn _ _ (by omega), Sp_drop _ _ hl, bt_eq, w64 (n := ((s.data.toList.getD i 0).toNat : Int)) (by omega)]
    rw [show wrap64 ((i : Int) + 1) = ((i + 1 : Nat) : Int) from by unfold wrap64; omega]
    by_cases hp : i % 2 = 0
    · rw [if_pos (by omega), w64 (n := ((s.data.toList.getD i 0).toNat : Int) * 256) (by omega), w64 (by omega)]
      rw [show (i % 2 == 0) = true from by simp [hp]]
      have key : ∀ z', z' = decide (a + ((s.data.toList.getD i 0).toNat : Int) * 256 = 0) → patchbayref3_Sum.l0 (k + d + 1) s (a + ((s.data.toList.getD i 0).toNat : Int) * 256) z' ((i + 1 : Nat) : Int) =
          some (65535 - Fo (a + (((if true = true then (s.data.toList.getD i 0).toNat * 256 else (s.data.toList.getD i 0).toNat) + Sp (!true) (s.data.toList.drop (i + 1)) : Nat) : Int))) := by
        intro z' hz'
        rw [ih k (i + 1) _ z' (by omega) (by omega) (by omega) (by omega) hz', show ((i + 1) % 2 == 0) = !true from by simp; omega]
        simp only [if_true]
        congr 2
        congr 1
        omega
      by_cases h : z = true
      · rw [if_pos h]
        apply key
        subst hz
        have ha : a = 0 := by simpa using h
        subst ha
        rw [Bool.eq_iff_iff]; simp
      · rw [if_neg h]
        apply key
        subst hz
        have ha : ¬ a = 0 := by simpa using h
        rw [Bool.eq_iff_iff]; simp; omega
    · rw [if_neg (by omega), w64 (by omega)]
      rw [show (i % 2 == 0) = false from by simp; omega]
      have key : ∀ z', z' = decide (a + ((s.data.toList.getD i 0).toNat : Int) = 0) → patchbayref3_Sum.l0 (k + d + 1) s (a + ((s.data.toList.getD i 0).toNat : Int)) z' ((i + 1 : Nat) : Int) =
          some (65535 - Fo (a + (((if false = true then (s.data.toList.getD i 0).toNat * 256 else (s.data.toList.getD i 0).toNat) + Sp (!false) (s.data.toList.drop (i + 1)) : Nat) : Int))) := by
        intro z' hz'
        rw [ih k (i + 1) _ z' (by omega) (by omega) (by omega) (by omega) hz', show ((i + 1) % 2 == 0) = !false from by simp; omega]
        simp only [Bool.false_eq_true, if_false]
        congr 2
        congr 1
        omega
      by_cases h : z = true
      · rw [if_pos h]
        apply key
        subst hz
        have ha : a = 0 := by simpa using h
        subst ha
        rw [Bool.eq_iff_iff]; simp
      · rw [if_neg h]
        apply key
        subst hz
        have ha : ¬ a = 0 := by simpa using h
        rw [Bool.eq_iff_iff]; simp; omega
theorem rsum_v (s : ByteArray) (hs : s.size ≤ 140737488356000) (k : Nat) : patchbayref3_Sum.f (k + s.size + 1) s = some (ck s) := by
  have := rsum_l s hs s.size k 0 0 true (by omega) (by omega) (by omega) (by omega) (by simp)
  unfold patchbayref3_Sum.f ck
  simpa using this

theorem num1 (k : Nat) (n : Int) : patchbayref3_Number.f (k + 1) n 0 = some ⟨#[]⟩ := by
  simp only [patchbayref3_Number.f, if_true]
theorem sz1 (x : Int) : (strOfNums [x]).size = 1 := rfl
theorem sz0 : (⟨#[]⟩ : ByteArray).size = 0 := rfl
theorem num_step (k : Nat) (n m : Int) (h : 0 ≤ n ∧ n < 9223372036854775808) (hm : 0 < m ∧ m ≤ 8) (t : ByteArray) (ht : t.size ≤ 100) (hr : patchbayref3_Number.f k (n / 256) (m - 1) = some t) :
    patchbayref3_Number.f (k + 1) n m = some (t ++ strOfNums [n % 256]) := by
  have e : (strOfNums [n % 256]).size = 1 := rfl
  simp only [patchbayref3_Number.f]
  rw [if_neg (by omega), Int.tdiv_eq_ediv_of_nonneg h.1, w64 (n := n / 256) (by omega), w64 (n := m - 1) (by omega), hr]
  simp only [Option.bind_some]
  rw [tmodn _ _ h.1, show n % 256 % 256 = n % 256 from by omega, if_pos (by omega)]
theorem num2 (k : Nat) (n : Int) (h : 0 ≤ n ∧ n < 9223372036854775808) : patchbayref3_Number.f (k + 3) n 2 = some (by2 n) := by
  have a := num1 k (n / 256 / 256)
  have b := num_step (k + 1) (n / 256) 1 (by omega) (by omega) ⟨#[]⟩ (by rw [sz0]; omega) a
  have c := num_step (k + 2) n 2 h (by omega) _ (by simp only [ByteArray.size_append, sz1, sz0]; omega) b
  exact c
theorem num4 (k : Nat) (n : Int) (h : 0 ≤ n ∧ n < 4294967296) : patchbayref3_Number.f (k + 5) n 4 = some (by4 n) := by
  have a := num1 k (n / 256 / 256 / 256 / 256)
  have b := num_step (k + 1) (n / 256 / 256 / 256) 1 (by omega) (by omega) ⟨#[]⟩ (by rw [sz0]; omega) a
  have c := num_step (k + 2) (n / 256 / 256) 2 (by omega) (by omega) _ (by simp only [ByteArray.size_append, sz1, sz0]; omega) b
  have d := num_step (k + 3) (n / 256) 3 (by omega) (by omega) _ (by simp only [ByteArray.size_append, sz1, sz0]; omega) c
  have e := num_step (k + 4) n 4 (by omega) (by omega) _ (by simp only [ByteArray.size_append, sz1, sz0]; omega) d
  rw [e]
  congr 1
  apply ext
  unfold by4
  simp only [app, by2_list]
  simp [strOfNums]
  refine ⟨?_, ?_, ?_⟩ <;> (congr 1; omega)

/-! Bytes as lists of numbers. -/
theorem bo_app (a b : ByteArray) : bytesOf (a ++ b) = bytesOf a ++ bytesOf b := by
  unfold bytesOf; rw [app, List.map_append]
theorem so_bo (s : ByteArray) : strOfNums (bytesOf s) = s := by
  apply ext
  unfold strOfNums bytesOf
  simp only [List.map_map]
  conv => rhs; rw [← List.map_id s.data.toList]
  apply List.map_congr_left
  intro c _
  simp
theorem bo_len (s : ByteArray) : (bytesOf s).length = s.size := bytesOf_length s
theorem bo_by2 (n : Int) : bytesOf (by2 n) = [(n / 256) % 256, n % 256] := by
  unfold bytesOf
  rw [by2_list]
  simp only [List.map_cons, List.map_nil]
  rw [UInt8.toNat_ofNat', UInt8.toNat_ofNat']
  rw [show (((n / 256 % 256).toNat % 2 ^ 8 : Nat) : Int) = n / 256 % 256 from by omega, show (((n % 256).toNat % 2 ^ 8 : Nat) : Int) = n % 256 from by omega]
def by1 (n : Int) : ByteArray := strOfNums [n % 256]
theorem by1_size (n : Int) : (by1 n).size = 1 := rfl
theorem bo_by1 (n : Int) : bytesOf (by1 n) = [n % 256] := by
  unfold bytesOf by1 strOfNums
  simp only [List.map_cons, List.map_nil]
  rw [UInt8.toNat_ofNat']
  rw [show (((n % 256).toNat % 2 ^ 8 : Nat) : Int) = n % 256 from by omega]
theorem bo_by4 (n : Int) (h : 0 ≤ n ∧ n < 4294967296) : bytesOf (by4 n) = [(n / 16777216) % 256, (n / 65536) % 256, (n / 256) % 256, n % 256] := by
  unfold by4
  rw [bo_app, bo_by2, bo_by2]
  simp only [List.cons_append, List.nil_append]
  rw [show n / 65536 / 256 % 256 = n / 16777216 % 256 from by omega, show n % 65536 / 256 % 256 = n / 256 % 256 from by omega, show n % 65536 % 256 = n % 256 from by omega]
theorem two_v (n : Int) : seg_two.f n = some (bytesOf (by2 n)) := by rw [bo_by2]; rfl
theorem four_v (n : Int) (h : 0 ≤ n ∧ n < 4294967296) : seg_four.f n = some (bytesOf (by4 n)) := by rw [bo_by4 n h]; rfl
theorem num1b (k : Nat) (n : Int) (h : 0 ≤ n ∧ n < 9223372036854775808) : patchbayref3_Number.f (k + 2) n 1 = some (by1 n) := by
  have := num_step (k + 1) n 1 h (by omega) ⟨#[]⟩ (by rw [sz0]; omega) (num1 k _)
  rw [show k + 2 = k + 1 + 1 from rfl, this]
  congr 1

/-! The bytes of a segment. -/
def blk : List S77 → ByteArray
  | [] => ⟨#[]⟩
  | b :: l => by4 b.f0 ++ by4 b.f1 ++ blk l
theorem blk_size : ∀ l : List S77, (blk l).size = 8 * l.length
  | [] => rfl
  | b :: l => by rw [blk, ByteArray.size_append, ByteArray.size_append, by4_size, by4_size, blk_size l, List.length_cons]; omega
theorem emp_app (s : ByteArray) : (⟨#[]⟩ : ByteArray) ++ s = s := by apply ext; rw [app]; rfl
def hd16 (src dst sq ak fl win : Int) (n : Nat) : ByteArray := by2 src ++ by2 dst ++ by4 sq ++ by4 ak ++ by1 fl ++ by1 n ++ by2 win
theorem hd16_size (src dst sq ak fl win : Int) (n : Nat) : (hd16 src dst sq ak fl win n).size = 16 := by
  unfold hd16; simp only [ByteArray.size_append, by4_size, by2_size, by1_size]
def plain (src dst sq ak fl win : Int) (l : List S77) (s : ByteArray) (sum : Int) : ByteArray := hd16 src dst sq ak fl win l.length ++ by2 sum ++ (blk l ++ s)
theorem plain_size (src dst sq ak fl win : Int) (l : List S77) (s : ByteArray) (sum : Int) : (plain src dst sq ak fl win l s sum).size = 18 + 8 * l.length + s.size := by
  unfold plain; simp only [ByteArray.size_append, hd16_size, by2_size, blk_size]; omega
theorem drop_blk (l : List S77) (i : Nat) (h : i < l.length) : blk (l.drop i) = by4 (rd_T77 l i).f0 ++ by4 (rd_T77 l i).f1 ++ blk (l.drop (i + 1)) := by
  rw [List.drop_eq_getElem_cons h, blk, rd_mem l i h]
theorem wf_rd {l : List S77} (hw : Wf l) (i : Nat) (h : i < l.length) : U32 (rd_T77 l i).f0 ∧ U32 (rd_T77 l i).f1 := by
  rw [rd_mem l i h]; exact hw _ (List.getElem_mem h)

theorem rplain_l (l : List S77) (hl : l.length ≤ 3) (hw : Wf l) (s : ByteArray) (hs : s.size ≤ 1024) (a b c e f g : Int) (d : Nat) : ∀ (k i : Nat) (x : ByteArray), l.length - i = d → i ≤ l.length → x.size ≤ 200 + 8 * i →
    patchbayref3_SegPlain.l0 (k + d + 6) x i a b c e f g l s = some (x ++ (blk (l.drop i) ++ s)) := by
  induction d with
  | zero =>
    intro k i x hd hi hx
    rw [patchbayref3_SegPlain.l0, if_neg (by omega), if_pos (by omega), List.drop_eq_nil_of_le (by omega), blk, emp_app]
  | succ d ih =>
    intro k i x hd hi hx
    have hi' : i < l.length := by omega
    obtain ⟨u0, u1⟩ := wf_rd hw i hi'
    unfold U32 at u0 u1
    rw [show k + (d + 1) + 6 = (k + d + 6) + 1 from by omega, patchbayref3_SegPlain.l0, if_pos (by omega), if_pos (by omega), w64 (n := (rd_T77 l i).f0) (by omega), w64 (n := (rd_T77 l i).f1) (by omega), show k + d + 6 = (k + d + 1) + 5 from by omega, num4 _ _ u0, num4 _ _ u1]
    simp only [Option.bind_some]
    have z0 := by4_size (rd_T77 l i).f0
    have z1 := by4_size (rd_T77 l i).f1
    rw [if_pos (by omega), if_pos (by rw [ByteArray.size_append]; omega), show wrap64 ((i : Int) + 1) = ((i + 1 : Nat) : Int) from by unfold wrap64; omega, show k + d + 1 + 5 = k + d + 6 from by omega]
    rw [ih k (i + 1) _ (by omega) (by omega) (by simp only [ByteArray.size_append]; omega), drop_blk l i hi']
    simp only [ByteArray.append_assoc]
theorem rplain_v (src dst sq ak fl win : Int) (l : List S77) (s : ByteArray) (sum : Int) (h1 : 0 ≤ src ∧ src ≤ 65535) (h2 : 0 ≤ dst ∧ dst ≤ 65535) (hq : U32 sq) (ha : U32 ak) (hf : 0 ≤ fl ∧ fl ≤ 23) (h3 : 0 ≤ win ∧ win ≤ 65535) (hl : l.length ≤ 3) (hw : Wf l) (hs : s.size ≤ 1024) (hm : 0 ≤ sum ∧ sum ≤ 65535) (k : Nat) :
    patchbayref3_SegPlain.f (k + 20) src dst sq ak fl win l s sum = some (plain src dst sq ak fl win l s sum) := by
  unfold patchbayref3_SegPlain.f
  unfold U32 at hq ha
  have n2 : ∀ n, 0 ≤ n ∧ n ≤ 65535 → patchbayref3_Number.f (k + 20) n 2 = some (by2 n) := fun n hn => num2 (k + 17) n (by omega)
  have n1 : ∀ n, 0 ≤ n ∧ n ≤ 65535 → patchbayref3_Number.f (k + 20) n 1 = some (by1 n) := fun n hn => num1b (k + 18) n (by omega)
  rw [n2 _ h1, n2 _ h2, n2 _ h3, n2 _ hm, n1 fl (by omega), n1 (l.length : Int) (by omega), w64 (n := sq) (by omega), w64 (n := ak) (by omega), show k + 20 = (k + 15) + 5 from rfl, num4 _ _ hq, num4 _ _ ha]
  simp only [Option.bind_some]
  have z1 := by2_size src
  have z2 := by2_size dst
  have z3 := by2_size win
  have z4 := by2_size sum
  have z5 := by4_size sq
  have z6 := by4_size ak
  have z7 := by1_size fl
  have z8 := by1_size (l.length : Int)
  rw [if_pos (by omega), if_pos (by simp only [ByteArray.size_append]; omega), if_pos (by simp only [ByteArray.size_append]; omega), if_pos (by simp only [ByteArray.size_append]; omega), if_pos (by simp only [ByteArray.size_append]; omega), if_pos (by simp only [ByteArray.size_append]; omega), if_pos (by simp only [ByteArray.size_append]; omega)]
  have := rplain_l l hl hw s hs src dst sq ak fl win l.length (k + 20 - l.length - 6) 0 (by2 src ++ by2 dst ++ by4 sq ++ by4 ak ++ by1 fl ++ by1 l.length ++ by2 win ++ by2 sum) (by omega) (by omega) (by simp only [ByteArray.size_append]; omega)
  rw [show k + 20 - l.length - 6 + l.length + 6 = k + 15 + 5 from by omega, List.drop_zero] at this
  exact this

theorem pbytes_l (l : List S77) (hl : l.length ≤ 3) (hw : Wf l) (s : ByteArray) (hs : s.size ≤ 1024) (a b c e f g : Int) (s' : ByteArray) (d : Nat) : ∀ (k i : Nat) (x : ByteArray), l.length - i = d → i ≤ l.length → x.size ≤ 200 + 8 * i →
    seg_bytes.l0 (k + d + 1) (bytesOf x) l l.length i a b c e f g l s = some (bytesOf (x ++ (blk (l.drop i) ++ s))) := by
  induction d with
  | zero =>
    intro k i x hd hi hx
    rw [seg_bytes.l0, if_neg (by omega), if_pos (by rw [bo_len]; omega), List.drop_eq_nil_of_le (by omega), blk, emp_app, bo_app]
  | succ d ih =>
    intro k i x hd hi hx
    have hi' : i < l.length := by omega
    obtain ⟨u0, u1⟩ := wf_rd hw i hi'
    have z0 := by4_size (rd_T77 l i).f0
    have z1 := by4_size (rd_T77 l i).f1
    rw [show k + (d + 1) + 1 = (k + d + 1) + 1 from by omega, seg_bytes.l0, if_pos (by omega), if_pos (by omega), if_pos (by omega), four_v _ u0, four_v _ u1]
    simp only [Option.bind_some]
    rw [← bo_app, if_pos (by rw [bo_len, bo_len]; omega), if_pos (by rw [bo_len, bo_len, ByteArray.size_append]; omega), ← bo_app, show wrap64 ((i : Int) + 1) = ((i + 1 : Nat) : Int) from by unfold wrap64; omega]
    rw [ih k (i + 1) _ (by omega) (by omega) (by simp only [ByteArray.size_append]; omega), drop_blk l i hi']
    simp only [ByteArray.append_assoc]
theorem pbytes_v (src dst sq ak fl win : Int) (l : List S77) (s : ByteArray) (hq : U32 sq) (ha : U32 ak) (hl : l.length ≤ 3) (hw : Wf l) (hs : s.size ≤ 1024) (k : Nat) :
    seg_bytes.f (k + 20) src dst sq ak fl win l s = some (bytesOf (plain src dst sq ak fl win l s 0)) := by
  unfold seg_bytes.f
  rw [two_v, two_v, two_v, four_v _ hq, four_v _ ha]
  simp only [Option.bind_some]
  have e1 : ([fl % 256, (l.length : Int) % 256] : List Int) = bytesOf (by1 fl ++ by1 l.length) := by rw [bo_app, bo_by1, bo_by1]; rfl
  have e2 : ([0, 0] : List Int) = bytesOf (by2 0) := by rw [bo_by2]; rfl
  rw [e1, e2]
  simp only [← bo_app]
  have z1 := by2_size src
  have z2 := by2_size dst
  have z3 := by2_size win
  have z4 := by2_size 0
  have z5 := by4_size sq
  have z6 := by4_size ak
  have z7 := by1_size fl
  have z8 := by1_size (l.length : Int)
  simp only [bo_len, ByteArray.size_append, z1, z2, z3, z4, z5, z6, z7, z8]
  rw [if_pos (by omega), if_pos (by omega), if_pos (by omega), if_pos (by omega), if_pos (by omega), if_pos (by omega)]
  have := pbytes_l l hl hw s hs src dst sq ak fl win s l.length (k + 20 - l.length - 1) 0 (by2 src ++ by2 dst ++ by4 sq ++ by4 ak ++ (by1 fl ++ by1 l.length) ++ by2 win ++ by2 0) (by omega) (by omega) (by simp only [ByteArray.size_append]; omega)
  rw [show k + 20 - l.length - 1 + l.length + 1 = k + 20 from by omega, List.drop_zero] at this
  rw [show plain src dst sq ak fl win l s 0 = by2 src ++ by2 dst ++ by4 sq ++ by4 ak ++ (by1 fl ++ by1 l.length) ++ by2 win ++ by2 0 ++ (blk l ++ s) from by unfold plain hd16; simp only [ByteArray.append_assoc]]
  exact this

/-! The checksum. -/
def sl (a b : Int) (t : ByteArray) : Int := ck (by4 a ++ by4 b ++ by2 6 ++ by2 t.size ++ t)
theorem sl_bd (a b : Int) (t : ByteArray) : 0 ≤ sl a b t ∧ sl a b t ≤ 65535 := ck_bd _
theorem sealed_v (a b : Int) (t : ByteArray) (ha : U32 a) (hb : U32 b) (ht : t.size ≤ 140737488351232) (k : Nat) (hk : t.size + 30 ≤ k) : seg_sealed.f k a b t = some (sl a b t) := by
  unfold seg_sealed.f
  rw [two_v, four_v _ ha, four_v _ hb]
  simp only [Option.bind_some]
  have z1 := by2_size (t.size : Int)
  have z2 := by2_size 6
  have z5 := by4_size a
  have z6 := by4_size b
  rw [show ([0, 6] : List Int) = bytesOf (by2 6) from by rw [bo_by2]; rfl]
  simp only [← bo_app]
  simp only [bo_len, ByteArray.size_append, z1, z2, z5, z6, so_bo]
  rw [if_pos (by omega), if_pos (by omega), if_pos (by omega), if_pos (by omega)]
  have hz : (by4 a ++ by4 b ++ by2 6 ++ by2 t.size ++ t).size = 12 + t.size := by simp only [ByteArray.size_append, z1, z2, z5, z6]
  have := sum_v (by4 a ++ by4 b ++ by2 6 ++ by2 t.size ++ t) (by omega) (k - (12 + t.size) - 8)
  rw [hz, show k - (12 + t.size) - 8 + (12 + t.size) + 8 = k from by omega] at this
  rw [this]
  rfl
theorem rsum2_v (a b : Int) (t : ByteArray) (ha : U32 a) (hb : U32 b) (ht : t.size ≤ 140737488351232) (k : Nat) (hk : t.size + 30 ≤ k) : patchbayref3_SegSum.f k a b t = some (sl a b t) := by
  unfold patchbayref3_SegSum.f
  unfold U32 at ha hb
  obtain ⟨k, rfl⟩ : ∃ m, k = m + 5 := ⟨k - 5, by omega⟩
  rw [w64 (n := a) (by omega), w64 (n := b) (by omega), num4 _ _ ha, num4 _ _ hb, show k + 5 = (k + 2) + 3 from rfl, num2 _ 6 (by omega), num2 _ (t.size : Int) (by omega)]
  simp only [Option.bind_some]
  have z1 := by2_size (t.size : Int)
  have z2 := by2_size 6
  have z5 := by4_size a
  have z6 := by4_size b
  rw [if_pos (by omega), if_pos (by simp only [ByteArray.size_append]; omega), if_pos (by simp only [ByteArray.size_append]; omega), if_pos (by simp only [ByteArray.size_append]; omega)]
  have hz : (by4 a ++ by4 b ++ by2 6 ++ by2 t.size ++ t).size = 12 + t.size := by simp only [ByteArray.size_append, z1, z2, z5, z6]
  have := rsum_v (by4 a ++ by4 b ++ by2 6 ++ by2 t.size ++ t) (by omega) (k + 5 - (12 + t.size) - 1)
  rw [hz, show k + 5 - (12 + t.size) - 1 + (12 + t.size) + 1 = k + 2 + 3 from by omega] at this
  rw [this]
  rfl

/-! The encoding. -/
def enc (a b src dst sq ak fl win : Int) (l : List S77) (s : ByteArray) : ByteArray := plain src dst sq ak fl win l s (sl a b (plain src dst sq ak fl win l s 0))
theorem set_two (h16 r : ByteArray) (n : Int) (h : h16.size = 16) : strOfNums (((bytesOf (h16 ++ by2 0 ++ r)).set 16 ((n / 256) % 256)).set 17 (n % 256)) = h16 ++ by2 n ++ r := by
  rw [bo_app, bo_app, bo_by2]
  have hl : (bytesOf h16).length = 16 := by rw [bo_len, h]
  rw [List.append_assoc, List.set_append_right 16 _ (by omega), hl]
  rw [List.set_append_right 17 _ (by omega), hl]
  simp only [Nat.sub_self, List.cons_append, List.nil_append, List.set_cons_zero, List.set_cons_succ]
  rw [show bytesOf h16 ++ (n / 256 % 256 :: n % 256 :: bytesOf r) = bytesOf (h16 ++ by2 n ++ r) from by rw [bo_app, bo_app, bo_by2, List.append_assoc]; rfl, so_bo]
theorem penc_v (a b src dst sq ak fl win : Int) (l : List S77) (s : ByteArray) (ha : U32 a) (hb : U32 b) (hq : U32 sq) (hk' : U32 ak) (hf : I64 fl) (hw : Wf l) (h : segE src dst fl win l s.size = 0) (k : Nat) (hk : 2000 ≤ k) :
    seg_Encode.f k a b src dst sq ak fl win l s = some (enc a b src dst sq ak fl win l s, 0) := by
  obtain ⟨hok, hl, hs, _⟩ := segE_zero h
  obtain ⟨k, rfl⟩ : ∃ m, k = m + 20 := ⟨k - 20, by omega⟩
  unfold seg_Encode.f
  have hc := check_v src dst sq ak fl win l s hf hw (k + 13)
  rw [show k + 13 + 7 = k + 20 from by omega] at hc
  have hz := plain_size src dst sq ak fl win l s 0
  rw [hc, h, Option.bind_some, if_pos rfl, pbytes_v src dst sq ak fl win l s hq hk' hl hw hs k, Option.bind_some, so_bo, sealed_v a b _ ha hb (by omega) (k + 20) (by omega), Option.bind_some, if_pos (by rw [bo_len]; omega), if_pos (by rw [bo_len]; omega)]
  congr 2
  exact set_two _ _ _ (hd16_size _ _ _ _ _ _ _)
theorem penc_e (a b src dst sq ak fl win : Int) (l : List S77) (s : ByteArray) (hf : I64 fl) (hw : Wf l) (h : segE src dst fl win l s.size ≠ 0) (k : Nat) :
    seg_Encode.f (k + 7) a b src dst sq ak fl win l s = some (⟨#[]⟩, segE src dst fl win l s.size) := by
  unfold seg_Encode.f
  rw [check_v _ _ _ _ _ _ _ _ hf hw, Option.bind_some, if_neg h]
theorem renc_v (a b src dst sq ak fl win : Int) (l : List S77) (s : ByteArray) (ha : U32 a) (hb : U32 b) (hq : U32 sq) (hk' : U32 ak) (hw : Wf l) (h : segE src dst fl win l s.size = 0) (k : Nat) (hk : 2000 ≤ k) :
    patchbayref3_SegBytes.f k a b src dst sq ak fl win l s = some (enc a b src dst sq ak fl win l s) := by
  obtain ⟨⟨h1, h2, ⟨hf, _⟩, h3⟩, hl, hs, _⟩ := segE_zero h
  obtain ⟨k, rfl⟩ : ∃ m, k = m + 20 := ⟨k - 20, by omega⟩
  unfold patchbayref3_SegBytes.f
  have hz := plain_size src dst sq ak fl win l s 0
  rw [rplain_v src dst sq ak fl win l s 0 h1 h2 hq hk' hf h3 hl hw hs (by omega) k, Option.bind_some, rsum2_v a b _ ha hb (by omega) (k + 20) (by omega), Option.bind_some]
  rw [rplain_v src dst sq ak fl win l s _ h1 h2 hq hk' hf h3 hl hw hs (sl_bd _ _ _) k, Option.bind_some]
  rfl

/-! Reading. -/
theorem word_v (s : ByteArray) (i : Nat) (h : i + 2 ≤ s.size) (h2 : i < 1000) : seg_word.f s (i : Int) = some (rd2 s i) := by
  unfold seg_word.f
  have a := u8_lt (s.data.toList.getD i 0)
  have b := u8_lt (s.data.toList.getD (i + 1) 0)
  rw [show wrap64 ((i : Int) + 1) = ((i + 1 : Nat) : Int) from by unfold wrap64; omega]
  rw [if_pos (by omega), if_pos (by omega), if_pos (by omega), if_pos (by omega), bt_eq, bt_eq, w64 (n := ((s.data.toList.getD i 0).toNat : Int)) (by omega), w64 (n := ((s.data.toList.getD (i + 1) 0).toNat : Int)) (by omega), w64 (n := ((s.data.toList.getD i 0).toNat : Int) * 256) (by omega), or_join _ _ (by omega) (by omega)]
  rfl
def rd4 (s : ByteArray) (i : Nat) : Int := rd2 s i * 65536 + rd2 s (i + 2)
theorem rd4_bd (s : ByteArray) (i : Nat) : U32 (rd4 s i) := by
  have := rd2_bd s i
  have := rd2_bd s (i + 2)
  unfold U32 rd4; omega
theorem or_join32 (x y : Int) (hx : 0 ≤ x ∧ x < 65536) (hy : 0 ≤ y ∧ y < 65536) : Go.bits .or .u32 (x * 65536) y = x * 65536 + y := by
  exact bits_join .u32 32 (by decide) (by intro n a b; rw [IntKind.wrap_u32]; have : n < 4294967296 := b; omega) 16 (x * 65536) y (by omega) (by omega) (by have : (2 : Int) ^ 32 = 4294967296 := rfl; omega) (by omega) (by have : (2 : Int) ^ 16 = 65536 := rfl; omega) (by have : (2 : Int) ^ 32 = 4294967296 := rfl; omega)
theorem long_v (s : ByteArray) (i : Nat) (h : i + 4 ≤ s.size) (h2 : i < 900) : seg_long.f s (i : Int) = some (rd4 s i) := by
  unfold seg_long.f
  have a := rd2_bd s i
  have b := rd2_bd s (i + 2)
  rw [word_v s i (by omega) (by omega), Option.bind_some, show wrap64 ((i : Int) + 2) = ((i + 2 : Nat) : Int) from by unfold wrap64; omega, word_v s (i + 2) (by omega) (by omega), Option.bind_some]
  rw [show (rd2 s i % 4294967296 * 65536) % 4294967296 = rd2 s i * 65536 from by omega, show rd2 s (i + 2) % 4294967296 = rd2 s (i + 2) from by omega, or_join32 _ _ a b]
  rfl
def rd1 (s : ByteArray) (i : Nat) : Int := ((s.data.toList.getD i 0).toNat : Int)
theorem rd1_bd (s : ByteArray) (i : Nat) : 0 ≤ rd1 s i ∧ rd1 s i < 256 := by
  have := u8_lt (s.data.toList.getD i 0)
  unfold rd1; omega
theorem read_step (s : ByteArray) (k i : Nat) (x : Int) (hi : i < s.size) (h1 : i < 100) (hx : 0 ≤ x ∧ x < 4294967296) : patchbayref3_Read.l0 (k + 1) s x i = patchbayref3_Read.l0 k s (x * 256 + rd1 s i) ((i + 1 : Nat) : Int) := by
  have a := u8_lt (s.data.toList.getD i 0)
  rw [patchbayref3_Read.l0, if_pos (by omega), if_pos (by omega), bt_eq, w64 (n := ((s.data.toList.getD i 0).toNat : Int)) (by omega), w64 (n := x * 256) (by omega), w64 (by omega), show wrap64 ((i : Int) + 1) = ((i + 1 : Nat) : Int) from by unfold wrap64; omega]
  rfl
theorem read_end (s : ByteArray) (k i : Nat) (x : Int) (hi : i = s.size) : patchbayref3_Read.l0 (k + 1) s x i = some x := by
  rw [patchbayref3_Read.l0, if_neg (by omega)]
theorem rd1_cut (s : ByteArray) (i j p : Nat) (h : i + p < j) : rd1 (s.extract i j) p = rd1 s (i + p) := by
  unfold rd1
  rw [cut]
  simp [List.getD_eq_getElem?_getD, List.getElem?_take, List.getElem?_drop, show p < j - i from by omega]
theorem read1 (s : ByteArray) (i : Nat) (h : i + 1 ≤ s.size) (k : Nat) : patchbayref3_Read.f (k + 2) (s.extract i (i + 1)) = some (rd1 s i) := by
  have hz : (s.extract i (i + 1)).size = 1 := by rw [ByteArray.size_extract]; omega
  have b0 := rd1_bd s i
  unfold patchbayref3_Read.f
  have := read_step (s.extract i (i + 1)) (k + 1) 0 0 (by omega) (by omega) (by omega)
  rw [show ((0 : Nat) : Int) = 0 from rfl] at this
  rw [this, read_end _ _ _ _ (by omega), rd1_cut s i (i + 1) 0 (by omega)]
  congr 1
  simp only [Nat.add_zero]
  omega
theorem read2 (s : ByteArray) (i : Nat) (h : i + 2 ≤ s.size) (k : Nat) : patchbayref3_Read.f (k + 3) (s.extract i (i + 2)) = some (rd2 s i) := by
  have hz : (s.extract i (i + 2)).size = 2 := by rw [ByteArray.size_extract]; omega
  have b0 := rd1_bd s i
  have b1 := rd1_bd s (i + 1)
  unfold patchbayref3_Read.f
  have := read_step (s.extract i (i + 2)) (k + 2) 0 0 (by omega) (by omega) (by omega)
  rw [show ((0 : Nat) : Int) = 0 from rfl] at this
  have c0 : rd1 (s.extract i (i + 2)) 0 = rd1 s i := rd1_cut s i (i + 2) 0 (by omega)
  rw [this, c0, read_step _ _ _ _ (by omega) (by omega) (by omega), rd1_cut s i (i + 2) 1 (by omega), read_end _ _ _ _ (by omega)]
  have e : rd2 s i = rd1 s i * 256 + rd1 s (i + 1) := by unfold rd2 rd1; rfl
  rw [e]
  refine congrArg some ?_
  omega
theorem read4 (s : ByteArray) (i : Nat) (h : i + 4 ≤ s.size) (k : Nat) : patchbayref3_Read.f (k + 5) (s.extract i (i + 4)) = some (rd4 s i) := by
  have hz : (s.extract i (i + 4)).size = 4 := by rw [ByteArray.size_extract]; omega
  have b0 := rd1_bd s i
  have b1 := rd1_bd s (i + 1)
  have b2 := rd1_bd s (i + 2)
  have b3 := rd1_bd s (i + 3)
  unfold patchbayref3_Read.f
  have := read_step (s.extract i (i + 4)) (k + 4) 0 0 (by omega) (by omega) (by omega)
  rw [show ((0 : Nat) : Int) = 0 from rfl] at this
  have c0 : rd1 (s.extract i (i + 4)) 0 = rd1 s i := rd1_cut s i (i + 4) 0 (by omega)
  rw [this, c0, read_step _ _ _ _ (by omega) (by omega) (by omega), rd1_cut s i (i + 4) 1 (by omega), read_step _ _ _ _ (by omega) (by omega) (by omega), rd1_cut s i (i + 4) 2 (by omega), read_step _ _ _ _ (by omega) (by omega) (by omega), rd1_cut s i (i + 4) 3 (by omega), read_end _ _ _ _ (by omega)]
  have e : rd4 s i = (rd1 s i * 256 + rd1 s (i + 1)) * 65536 + (rd1 s (i + 2) * 256 + rd1 s (i + 3)) := by unfold rd4 rd2 rd1; rfl
  rw [e]
  refine congrArg some ?_
  omega

/-! The decoding. -/
def bl (s : ByteArray) : Nat → List S77
  | 0 => []
  | i + 1 => bl s i ++ [⟨rd4 s (18 + 8 * i), rd4 s (18 + 8 * i + 4)⟩]
theorem bl_len (s : ByteArray) : ∀ i, (bl s i).length = i
  | 0 => rfl
  | i + 1 => by rw [bl, List.length_append, bl_len s i]; rfl
theorem bl_wf (s : ByteArray) : ∀ i, Wf (bl s i)
  | 0 => fun z hz => by simp [bl] at hz
  | i + 1 => fun z hz => by
    rw [bl, List.mem_append] at hz
    rcases hz with hz | hz
    · exact bl_wf s i z hz
    · simp only [List.mem_singleton] at hz; subst hz; exact ⟨rd4_bd _ _, rd4_bd _ _⟩
abbrev Dec := Int × Int × Int × Int × Int × Int × (List S77) × ByteArray × Int
def derr (e : Int) : Dec := (0, 0, 0, 0, 0, 0, [], ⟨#[]⟩, e)
def dfin (s : ByteArray) (n : Nat) : Dec :=
  if segE (rd2 s 0) (rd2 s 2) (rd1 s 12) (rd2 s 14) (bl s n) (s.size - (18 + 8 * n)) = 0 then (rd2 s 0, rd2 s 2, rd4 s 4, rd4 s 8, rd1 s 12, rd2 s 14, bl s n, s.extract (18 + 8 * n) s.size, 0) else derr 3
def dec (a b : Int) (s : ByteArray) : Dec :=
  if s.size < 18 then derr 9 else if rd2 s 16 = sl a b (s.extract 0 16 ++ by2 0 ++ s.extract 18 s.size) then
    (if rd1 s 13 ≤ 3 ∧ 18 + 8 * (rd1 s 13).toNat ≤ s.size then dfin s (rd1 s 13).toNat else derr 3) else derr 8

theorem pdec_l (s : ByteArray) (hs : s.size ≤ 140737488351232) (n : Nat) (hn : n ≤ 3) (hz : 18 + 8 * n ≤ s.size) (d : Nat) : ∀ (k i : Nat), n - i = d → i ≤ n →
    seg_Decode.l0 (k + d + 8) s n n i (rd2 s 0) (rd2 s 2) (rd4 s 4) (rd4 s 8) (rd1 s 12) (rd2 s 14) (bl s i) ⟨#[]⟩ = some (dfin s n) := by
  induction d with
  | zero =>
    intro k i hd hi
    obtain rfl : i = n := by omega
    rw [show k + 0 + 8 = (k + 7) + 1 from by omega, seg_Decode.l0, if_neg (by omega), show wrap64 (18 + wrap64 (8 * (i : Int))) = ((18 + 8 * i : Nat) : Int) from by unfold wrap64; omega, if_pos (by omega), if_pos (by omega), Int.toNat_natCast]
    have b := rd1_bd s 12
    rw [check_v _ _ _ _ _ _ _ _ (by unfold I64; omega) (bl_wf s i), Option.bind_some, show (s.extract (18 + 8 * i) s.size).size = s.size - (18 + 8 * i) from by rw [ByteArray.size_extract]; omega]
    unfold dfin
    split <;> rfl
  | succ d ih =>
    intro k i hd hi
    rw [show k + (d + 1) + 8 = (k + d + 8) + 1 from by omega, seg_Decode.l0, if_pos (by omega), show wrap64 (18 + wrap64 (8 * (i : Int))) = ((18 + 8 * i : Nat) : Int) from by unfold wrap64; omega, show wrap64 (((18 + 8 * i : Nat) : Int) + 4) = ((18 + 8 * i + 4 : Nat) : Int) from by unfold wrap64; omega, long_v s _ (by omega) (by omega), Option.bind_some, long_v s _ (by omega) (by omega), Option.bind_some, if_pos (by rw [bl_len]; omega), show wrap64 ((i : Int) + 1) = ((i + 1 : Nat) : Int) from by unfold wrap64; omega]
    exact ih k (i + 1) (by omega) (by omega)

theorem w188 (x : Int) (h : 0 ≤ x ∧ x < 256) : wrap64 (18 + wrap64 (8 * x)) = 18 + 8 * x := by unfold wrap64; omega
theorem by20 : (⟨#[0, 0]⟩ : ByteArray) = by2 0 := rfl
set_option maxHeartbeats 2000000 in
theorem pdec_v (a b : Int) (s : ByteArray) (ha : U32 a) (hb : U32 b) (hs : s.size ≤ 140737488351232) (k : Nat) (hk : s.size + 100 ≤ k) : seg_Decode.f k a b s = some (dec a b s) := by
  unfold seg_Decode.f dec
  by_cases h1 : s.size < 18
  · rw [if_pos h1, if_pos (by omega)]; rfl
  · rw [if_neg h1, if_neg (by omega), show (16 : Int) = ((16 : Nat) : Int) from rfl, word_v s 16 (by omega) (by omega), Option.bind_some]
    have z1 : (s.extract 0 16).size = 16 := by rw [ByteArray.size_extract]; omega
    have z2 : (s.extract 18 s.size).size = s.size - 18 := by rw [ByteArray.size_extract]; omega
    have z3 : (s.extract 0 16 ++ by2 0 ++ s.extract 18 s.size).size = s.size := by rw [ByteArray.size_append, ByteArray.size_append, z1, z2, by2_size]; omega
    rw [by20, if_pos (by omega), if_pos (by omega), if_pos (by omega), if_pos (by omega), if_pos (by rw [ByteArray.size_append, by2_size]; omega), sealed_v a b _ ha hb (by omega) k (by omega), Option.bind_some]
    by_cases h2 : rd2 s 16 = sl a b (s.extract 0 16 ++ by2 0 ++ s.extract 18 s.size)
    · rw [if_pos h2, if_pos h2, if_pos (by omega)]
      have b13 := rd1_bd s 13
      have b12 := rd1_bd s 12
      have e13 : wrap64 (bt s 13) = rd1 s 13 := by
        rw [show (13 : Int) = ((13 : Nat) : Int) from rfl, bt_eq]
        unfold rd1 at b13 ⊢
        exact w64 (by omega)
      have e12 : wrap64 (bt s 12) = rd1 s 12 := by
        rw [show (12 : Int) = ((12 : Nat) : Int) from rfl, bt_eq]
        unfold rd1 at b12 ⊢
        exact w64 (by omega)
      rw [e13]
      obtain ⟨k, rfl⟩ : ∃ m, k = m + 12 := ⟨k - 12, by omega⟩
      by_cases h3 : rd1 s 13 > 3
      · rw [if_pos h3, if_neg (by omega), show k + 12 = (k + 11) + 1 from rfl, seg_Decode.j0, if_pos rfl]; rfl
      · rw [if_neg h3, w188 _ b13]
        by_cases h4 : (s.size : Int) < 18 + 8 * rd1 s 13
        · rw [if_neg (by omega), decide_eq_true h4, show k + 12 = (k + 11) + 1 from rfl, seg_Decode.j0, if_pos rfl]; rfl
        · rw [if_pos (by omega), decide_eq_false h4, show k + 12 = (k + 11) + 1 from rfl, seg_Decode.j0, if_neg (by decide)]
          have W : ∀ i : Nat, i + 2 ≤ 18 → ∀ j : Int, j = (i : Int) → seg_word.f s j = some (rd2 s i) := by
            rintro i hi j rfl
            exact word_v s i (by omega) (by omega)
          have L : ∀ i : Nat, i + 4 ≤ 18 → ∀ j : Int, j = (i : Int) → seg_long.f s j = some (rd4 s i) := by
            rintro i hi j rfl
            exact long_v s i (by omega) (by omega)
          rw [W 0 (by omega) 0 rfl, W 2 (by omega) 2 rfl, W 14 (by omega) 14 rfl, L 4 (by omega) 4 rfl, L 8 (by omega) 8 rfl, e12]
          simp only [Option.bind_some]
          rw [if_pos (by omega)]
          have hn : rd1 s 13 = ((rd1 s 13).toNat : Int) := by omega
          have := pdec_l s hs (rd1 s 13).toNat (by omega) (by omega) (rd1 s 13).toNat (k + 11 - (rd1 s 13).toNat - 8) 0 (by omega) (by omega)
          rw [show k + 11 - (rd1 s 13).toNat - 8 + (rd1 s 13).toNat + 8 = k + 11 from by omega, ← hn] at this
          exact this
    · rw [if_neg h2, if_neg h2]; rfl

theorem rdec_l (s : ByteArray) (hs : s.size ≤ 140737488351232) (n : Nat) (d : Nat) : ∀ (k i : Nat), 4 - i = d → i ≤ n → i ≤ 3 → 18 + 8 * i ≤ s.size → n ≤ 300 →
    patchbayref3_SegOf.l0 (k + 2 * d + 8) s ((18 + 8 * i : Nat) : Int) ((n - i : Nat) : Int) (rd2 s 0) (rd2 s 2) (rd4 s 4) (rd4 s 8) (rd1 s 12) (rd2 s 14) (bl s i) ⟨#[]⟩ = some (if n ≤ 3 ∧ 18 + 8 * n ≤ s.size then dfin s n else derr 3) := by
  induction d with
  | zero => intro k i hd _ hi; omega
  | succ d ih =>
    intro k i hd hin hi hz hn
    rw [show k + 2 * (d + 1) + 8 = (k + 2 * d + 8) + 1 + 1 from by omega, patchbayref3_SegOf.l0]
    by_cases h0 : n = i
    · subst h0
      rw [if_neg (by omega), if_pos (by omega), if_pos (by omega), Int.toNat_natCast, if_pos (show n ≤ 3 ∧ 18 + 8 * n ≤ s.size from ⟨hi, hz⟩)]
      have b := rd1_bd s 12
      have := fault_v (rd2 s 0) (rd2 s 2) (rd4 s 4) (rd4 s 8) (rd1 s 12) (rd2 s 14) (bl s n) (s.extract (18 + 8 * n) s.size) (by unfold I64; omega) (bl_wf s n) (k + 2 * d + 2)
      rw [show k + 2 * d + 2 + 7 = k + 2 * d + 8 + 1 from by omega] at this
      rw [this, Option.bind_some, show (s.extract (18 + 8 * n) s.size).size = s.size - (18 + 8 * n) from by rw [ByteArray.size_extract]; omega]
      unfold dfin
      split <;> rfl
    · rw [if_pos (by omega), show wrap64 (((18 + 8 * i : Nat) : Int) + 8) = ((18 + 8 * (i + 1) : Nat) : Int) from by unfold wrap64; omega]
      by_cases h1 : s.size < 18 + 8 * (i + 1)
      · rw [if_pos (by omega), if_neg (by omega), patchbayref3_SegOf.j1, if_pos rfl]; rfl
      · rw [if_neg (by omega), bl_len]
        by_cases h2 : i = 3
        · subst h2
          rw [if_neg (by omega), patchbayref3_SegOf.j1, if_pos (by rfl)]; rfl
        · rw [patchbayref3_SegOf.j1, if_neg (by simp; omega), show wrap64 (((18 + 8 * i : Nat) : Int) + 4) = ((18 + 8 * i + 4 : Nat) : Int) from by unfold wrap64; omega, show wrap64 (((18 + 8 * i : Nat) : Int) + 8) = ((18 + 8 * (i + 1) : Nat) : Int) from by unfold wrap64; omega]
          rw [if_pos (by omega), if_pos (by omega), if_pos (by omega), Int.toNat_natCast, Int.toNat_natCast, Int.toNat_natCast, show k + 2 * d + 8 = (k + 2 * d + 3) + 5 from by omega, read4 s _ (by omega), Option.bind_some, if_pos (by omega), if_pos (by omega), if_pos (by omega), show 18 + 8 * (i + 1) = 18 + 8 * i + 4 + 4 from by omega, read4 s _ (by omega), Option.bind_some, if_pos (by rw [bl_len]; omega)]
          have u0 := rd4_bd s (18 + 8 * i)
          have u1 := rd4_bd s (18 + 8 * i + 4)
          unfold U32 at u0 u1
          rw [show rd4 s (18 + 8 * i) % 4294967296 = rd4 s (18 + 8 * i) from by omega, show rd4 s (18 + 8 * i + 4) % 4294967296 = rd4 s (18 + 8 * i + 4) from by omega, show wrap64 (((n - i : Nat) : Int) - 1) = ((n - (i + 1) : Nat) : Int) from by unfold wrap64; omega]
          exact ih k (i + 1) (by omega) (by omega) (by omega) (by omega) hn
set_option maxHeartbeats 2000000 in
theorem rdec_v (a b : Int) (s : ByteArray) (ha : U32 a) (hb : U32 b) (hs : s.size ≤ 140737488351232) (k : Nat) (hk : s.size + 100 ≤ k) : patchbayref3_SegOf.f k a b s = some (dec a b s) := by
  unfold patchbayref3_SegOf.f dec
  by_cases h1 : s.size < 18
  · rw [if_pos h1, if_pos (by omega)]; rfl
  · rw [if_neg h1, if_neg (by omega)]
    have z1 : (s.extract 0 16).size = 16 := by rw [ByteArray.size_extract]; omega
    have z2 : (s.extract 18 s.size).size = s.size - 18 := by rw [ByteArray.size_extract]; omega
    have z3 : (s.extract 0 16 ++ by2 0 ++ s.extract 18 s.size).size = s.size := by rw [ByteArray.size_append, ByteArray.size_append, z1, z2, by2_size]; omega
    obtain ⟨k, rfl⟩ : ∃ m, k = m + 5 := ⟨k - 5, by omega⟩
    have W : ∀ i j : Nat, j = i + 2 → j ≤ 18 → patchbayref3_Read.f (k + 5) (s.extract i j) = some (rd2 s i) := by
      rintro i j rfl hj
      exact read2 s i (by omega) (k + 2)
    have L : ∀ i j : Nat, j = i + 4 → j ≤ 18 → patchbayref3_Read.f (k + 5) (s.extract i j) = some (rd4 s i) := by
      rintro i j rfl hj
      exact read4 s i (by omega) k
    have B : ∀ i j : Nat, j = i + 1 → j ≤ 18 → patchbayref3_Read.f (k + 5) (s.extract i j) = some (rd1 s i) := by
      rintro i j rfl hj
      exact read1 s i (by omega) (k + 3)
    rw [W 16 18 rfl (by omega), show patchbayref3_Number.f (k + 5) 0 2 = some (by2 0) from num2 (k + 2) 0 (by omega)]
    simp only [Option.bind_some]
    rw [if_pos (by omega), if_pos (by omega), if_pos (by omega), if_pos (by omega), if_pos (by rw [by2_size]; omega), if_pos (by rw [ByteArray.size_append, by2_size]; omega), rsum2_v a b _ ha hb (by omega) (k + 5) (by omega), Option.bind_some]
    by_cases h2 : rd2 s 16 = sl a b (s.extract 0 16 ++ by2 0 ++ s.extract 18 s.size)
    · rw [if_pos h2, if_pos h2]
      rw [W 0 2 rfl (by omega), W 2 4 rfl (by omega), L 4 8 rfl (by omega), L 8 12 rfl (by omega), B 12 13 rfl (by omega), W 14 16 rfl (by omega), B 13 14 rfl (by omega)]
      simp only [Option.bind_some]
      repeat rw [if_pos (by omega)]
      have u0 := rd4_bd s 4
      have u1 := rd4_bd s 8
      unfold U32 at u0 u1
      have b13 := rd1_bd s 13
      rw [show rd4 s 4 % 4294967296 = rd4 s 4 from by omega, show rd4 s 8 % 4294967296 = rd4 s 8 from by omega]
      have hn : rd1 s 13 = ((rd1 s 13).toNat : Int) := by omega
      have := rdec_l s hs (rd1 s 13).toNat 4 (k + 5 - 16) 0 (by omega) (by omega) (by omega) (by omega) (by omega)
      rw [show k + 5 - 16 + 2 * 4 + 8 = k + 5 from by omega, Nat.sub_zero, ← hn] at this
      rw [show (18 : Int) = ((18 + 8 * 0 : Nat) : Int) from rfl]
      rw [show ([] : List S77) = bl s 0 from rfl, this]
      by_cases h3 : rd1 s 13 ≤ 3 ∧ 18 + 8 * (rd1 s 13).toNat ≤ s.size
      · rw [if_pos h3, if_pos (by omega)]
      · rw [if_neg h3, if_neg (by omega)]
    · rw [if_neg h2, if_neg h2]; rfl

/-! The length. -/
theorem nand2 (n : Nat) : n &&& 2 = n / 2 % 2 * 2 := by
  apply Nat.eq_of_testBit_eq
  intro j
  rw [Nat.testBit_and]
  rcases (show n / 2 % 2 = 0 ∨ n / 2 % 2 = 1 by omega) with h | h
  · rw [h, show (0 * 2 : Nat) = 0 from rfl, Nat.zero_testBit, show (2 : Nat) = 2 ^ 1 from rfl, Nat.testBit_two_pow]
    by_cases hj : 1 = j
    · subst hj
      rw [Nat.testBit_succ, Nat.testBit_zero, h]; rfl
    · simp [hj]
  · rw [h, show (1 * 2 : Nat) = 2 ^ 1 from rfl, show (2 : Nat) = 2 ^ 1 from rfl, Nat.testBit_two_pow]
    by_cases hj : 1 = j
    · subst hj
      rw [Nat.testBit_succ, Nat.testBit_zero, h]; rfl
    · simp [hj]
theorem bits_and_nat (n m : Nat) (h : n < 9223372036854775808) (hm : m < 9223372036854775808) : bits .and .i64 (n : Int) (m : Int) = ((n &&& m : Nat) : Int) := by
  have e : bits .and .i64 (n : Int) (m : Int) = IntKind.i64.wrap (((BitVec.ofInt 64 (n : Int)) &&& (BitVec.ofInt 64 (m : Int))).toNat : Int) := rfl
  rw [e, BitVec.toNat_and, ofInt_nat n (by omega), ofInt_nat m (by omega)]
  have hle : n &&& m ≤ n := Nat.and_le_left
  exact wrap_nat _ (by omega)
theorem and2n (x : Int) (h0 : 0 ≤ x) (h1 : x ≤ 9223372036854775807) : bits .and .i64 x 2 = x / 2 % 2 * 2 := by
  obtain ⟨n, rfl⟩ := Int.eq_ofNat_of_zero_le h0
  have := bits_and_nat n 2 (by omega) (by omega)
  rw [nand2] at this
  rw [show (2 : Int) = ((2 : Nat) : Int) from rfl, this]
  omega
theorem and1n (x : Int) (h0 : 0 ≤ x) (h1 : x ≤ 9223372036854775807) : bits .and .i64 x 1 = x % 2 := by
  obtain ⟨n, rfl⟩ := Int.eq_ofNat_of_zero_le h0
  have := bits_and_nat n 1 (by omega) (by omega)
  rw [Nat.and_one_is_mod] at this
  rw [show (1 : Int) = ((1 : Nat) : Int) from rfl, this]
  omega
theorem len_v (src dst sq ak fl win : Int) (l : List S77) (s : ByteArray) (hf : 0 ≤ fl) (hf2 : fl ≤ 9223372036854775807) :
    seg_Length.f src dst sq ak fl win l s = some (if fl / 2 % 2 = 0 then (if fl % 2 = 0 then (s.size : Int) else wrap64 (s.size + 1)) else (if fl % 2 = 0 then wrap64 (s.size + 1) else wrap64 (wrap64 (s.size + 1) + 1))) := by
  unfold seg_Length.f
  rw [and2n fl hf hf2, and1n fl hf hf2]
  by_cases h1 : fl / 2 % 2 = 0
  · rw [if_pos h1, if_pos (by omega)]
    by_cases h2 : fl % 2 = 0
    · rw [if_pos h2, if_pos h2]
    · rw [if_neg h2, if_neg h2]
  · rw [if_neg h1, if_neg (by omega)]
    by_cases h2 : fl % 2 = 0
    · rw [if_pos h2, if_pos h2]
    · rw [if_neg h2, if_neg h2]
theorem len_w (fl : Int) (n : Nat) (hf : 0 ≤ fl) (hf2 : fl ≤ 9223372036854775807) (hn : n ≤ 9223372036854775807) :
    (if fl / 2 % 2 = 0 then (if fl % 2 = 0 then (n : Int) else wrap64 (n + 1)) else (if fl % 2 = 0 then wrap64 (n + 1) else wrap64 (wrap64 (n + 1) + 1))) = wrap64 (wrap64 ((n : Int) + Int.tmod fl 2) + Int.tmod (wrap64 (Int.tdiv fl 2)) 2) := by
  have e1 : Int.tmod fl 2 = fl % 2 := Int.tmod_eq_emod_of_nonneg hf
  have e2 : Int.tdiv fl 2 = fl / 2 := Int.tdiv_eq_ediv_of_nonneg hf
  rw [e1, e2, w64 (n := fl / 2) (by omega), show Int.tmod (fl / 2) 2 = fl / 2 % 2 from Int.tmod_eq_emod_of_nonneg (by omega)]
  unfold wrap64
  rcases (show fl / 2 % 2 = 0 ∨ fl / 2 % 2 = 1 by omega) with h | h <;> rcases (show fl % 2 = 0 ∨ fl % 2 = 1 by omega) with h' | h'
  · rw [if_pos h, if_pos h', h, h']; omega
  · rw [if_pos h, if_neg (by omega), h, h']; omega
  · rw [if_neg (by omega), if_pos h', h, h']; omega
  · rw [if_neg (by omega), if_neg (by omega), h, h']

/-! The law. -/
theorem fact_v (k : Nat) (hk : 100 ≤ k) : patchbaylaw3_segFact.f k = some true := by
  unfold patchbaylaw3_segFact.f
  have hz : (⟨#[0, 1, 242, 3]⟩ : ByteArray).size = 4 := rfl
  have := sum_v (⟨#[0, 1, 242, 3]⟩ : ByteArray) (by rw [hz]; omega) (k - 12)
  rw [hz, show k - 12 + 4 + 8 = k from by omega] at this
  have e : ck (⟨#[0, 1, 242, 3]⟩ : ByteArray) = 3579 := by decide +kernel
  rw [this, Option.bind_some, e]
  rfl
theorem j1_v (a b : Int) (src dst sq ak fl win : Int) (l : List S77) (s t : ByteArray) (y : ByteArray) (ln : Int) (hf : I64 fl) (hw : Wf l) (ht : t.size ≤ 140737488351232)
    (hln : seg_Length.f src dst sq ak fl win l s = some ln) (k : Nat) (hk : t.size + 100 ≤ k) :
    patchbaylaw3_SegSays.j1 (k + 1) t (segE src dst fl win l s.size) y y (segE src dst fl win l s.size) (dec a b t).2.2.2.2.2.2.2.2 (dec a b t).2.2.2.2.2.2.2.2 ln src dst sq ak fl win l s
      (dec a b t).1 (dec a b t).2.1 (dec a b t).2.2.1 (dec a b t).2.2.2.1 (dec a b t).2.2.2.2.1 (dec a b t).2.2.2.2.2.1 (dec a b t).2.2.2.2.2.2.1 (dec a b t).2.2.2.2.2.2.2.1
      (dec a b t).1 (dec a b t).2.1 (dec a b t).2.2.1 (dec a b t).2.2.2.1 (dec a b t).2.2.2.2.1 (dec a b t).2.2.2.2.2.1 (dec a b t).2.2.2.2.2.2.1 (dec a b t).2.2.2.2.2.2.2.1 = some true := by
  have hl : (dec a b t).2.2.2.2.2.2.1.length ≤ 3 := by
    unfold dec
    split
    · exact Nat.zero_le _
    · split
      · split
        · rename_i h
          unfold dfin
          split
          · show (bl t _).length ≤ 3
            rw [bl_len]; omega
          · exact Nat.zero_le _
        · exact Nat.zero_le _
      · exact Nat.zero_le _
  rw [patchbaylaw3_SegSays.j1]
  have hc := check_v src dst sq ak fl win l s hf hw (k - 7)
  rw [show k - 7 + 7 = k from by omega] at hc
  rw [hc, Option.bind_some, if_pos rfl, if_pos rfl, if_pos rfl, same_v _ _ _ _ _ _ _ _ (by omega) k (by omega), Option.bind_some, if_pos rfl, if_pos rfl, hln, Option.bind_some, if_pos rfl]
  have e1 := sum_v t (by omega) (k - t.size - 8)
  have e2 := rsum_v t (by omega) (k - t.size - 1)
  rw [show k - t.size - 8 + t.size + 8 = k from by omega] at e1
  rw [show k - t.size - 1 + t.size + 1 = k from by omega] at e2
  rw [e1, e2, Option.bind_some, Option.bind_some]
  simp
theorem len_some (src dst sq ak fl win : Int) (l : List S77) (s : ByteArray) : ∃ ln, seg_Length.f src dst sq ak fl win l s = some ln := by
  unfold seg_Length.f
  repeat' split
  all_goals exact ⟨_, rfl⟩
theorem j0_v (a b : Int) (src dst sq ak fl win : Int) (l : List S77) (s t : ByteArray) (y : ByteArray) (ha : U32 a) (hb : U32 b) (hf : I64 fl) (hw : Wf l) (hs : s.size ≤ 9223372036854775807) (ht : t.size ≤ 140737488351232) (k : Nat) (hk : t.size + 200 ≤ k)
    (hy : seg_Encode.f k a b src dst sq ak fl win l s = some (y, segE src dst fl win l s.size)) :
    patchbaylaw3_SegSays.j0 (k + 1) a b t (segE src dst fl win l s.size) y src dst sq ak fl win l s = some true := by
  rw [patchbaylaw3_SegSays.j0, hy, Option.bind_some, pdec_v a b t ha hb ht k (by omega), Option.bind_some, rdec_v a b t ha hb ht k (by omega), Option.bind_some]
  obtain ⟨k, rfl⟩ : ∃ m, k = m + 1 := ⟨k - 1, by omega⟩
  by_cases h0 : fl < 0
  · rw [if_pos h0]
    obtain ⟨ln, hln⟩ := len_some src dst sq ak fl win l s
    rw [hln, Option.bind_some]
    exact j1_v a b src dst sq ak fl win l s t y ln hf hw ht hln k (by omega)
  · rw [if_neg h0]
    unfold I64 at hf
    exact j1_v a b src dst sq ak fl win l s t y _ hf hw ht (by rw [len_v _ _ _ _ _ _ _ _ (by omega) hf.2, len_w fl s.size (by omega) hf.2 hs]) k (by omega)
theorem law (a b : Int) (src dst sq ak fl win : Int) (l : List S77) (s t : ByteArray) (ha : U32 a) (hb : U32 b) (hq : U32 sq) (hk' : U32 ak) (hf : I64 fl) (hw : Wf l) (hs : s.size ≤ 9223372036854775807) (ht : t.size ≤ 140737488351232) :
    patchbaylaw3_SegSays.f (t.size + 3000) a b src dst sq ak fl win l s t = some true := by
  unfold patchbaylaw3_SegSays.f
  rw [fact_v _ (by omega), Option.bind_some, if_pos rfl]
  have hv := fault_v src dst sq ak fl win l s hf hw (t.size + 2993)
  rw [show t.size + 2993 + 7 = t.size + 3000 from by omega] at hv
  rw [hv, Option.bind_some]
  by_cases h : segE src dst fl win l s.size = 0
  · rw [if_pos h, renc_v a b src dst sq ak fl win l s ha hb hq hk' hw h _ (by omega), Option.bind_some]
    exact j0_v a b src dst sq ak fl win l s t _ ha hb hf hw hs ht (t.size + 2999) (by omega) (by rw [h]; exact penc_v a b src dst sq ak fl win l s ha hb hq hk' hf hw h _ (by omega))
  · rw [if_neg h]
    exact j0_v a b src dst sq ak fl win l s t _ ha hb hf hw hs ht (t.size + 2999) (by omega) (penc_e a b src dst sq ak fl win l s hf hw h (t.size + 2992))

end Go.Proofs.Ytjiiejeldgkdiaa.Seg
