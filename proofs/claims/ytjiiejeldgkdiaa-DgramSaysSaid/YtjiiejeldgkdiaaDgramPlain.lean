/- Proved: the values of the functions that DgramSays calls, as plain byte strings. Every lemma names its own bounds. -/
import Derived.Test.YtjiiejeldgkdiaaBytes
import Derived.Test.YtjiiejeldgkdiaaDgramLaw
set_option linter.unusedVariables false
set_option linter.unusedSimpArgs false
namespace Go.Proofs.Ytjiiejeldgkdiaa.Dgram
open Go.RowKit Go.Proofs.Ytjiiejeldgkdiaa.PDgramSays Go.Proofs.YtjiiejeldgkdiaaW.PrintWords Go.Proofs.YtjiiejeldgkdiaaW.PrintLast Go.Proofs.YtjiiejeldgkdiaaW.PrintMore Go.Proofs.Ytjiiejeldgkdiaa.Bytes

theorem w64 {n : Int} (h : -9223372036854775808 ≤ n ∧ n ≤ 9223372036854775807) : wrap64 n = n := by unfold wrap64; omega

theorem tmodn (x : Int) (m : Int) (h : 0 ≤ x) : Int.tmod x m = x % m := Int.tmod_eq_emod_of_nonneg h

/-- The folding of a sum. -/
theorem fold_one (k : Nat) (n : Int) (h : 65535 < n) (h2 : n < 9223372036854775808) : seg_Sum.l1 (k + 1) n = seg_Sum.l1 k (n % 65536 + n / 65536) := by
  simp only [seg_Sum.l1]
  rw [if_pos h, and_mask n (by omega) h2, w64 (by omega)]
theorem fold_end (k : Nat) (n : Int) (h : 0 ≤ n) (h2 : n ≤ 65535) : seg_Sum.l1 (k + 1) n = some (65535 - Fo n) := by
  simp only [seg_Sum.l1]
  rw [if_neg (by omega), w64 (by omega), Fo_small n h h2]
theorem fold_v : ∀ (j : Nat) (k : Nat) (n : Int), 0 ≤ n → n < 9223372036854775808 → (n ≤ 65535 ∨ (n ≤ 131070 ∧ 2 ≤ j) ∨ (n ≤ 4294967295 ∧ 3 ≤ j) ∨ (n ≤ 281470681743360 ∧ 4 ≤ j) ∨ 5 ≤ j) → seg_Sum.l1 (k + j + 1) n = some (65535 - Fo n)
  | 0, k, n, h0, h1, hj => fold_end _ n h0 (by omega)
  | j + 1, k, n, h0, h1, hj => by
    by_cases h : n ≤ 65535
    · exact fold_end _ n h0 h
    · rw [show k + (j + 1) + 1 = (k + j + 1) + 1 from by omega, fold_one _ n (by omega) h1, fold_v j k (n % 65536 + n / 65536) (by omega) (by omega) (by omega), Fo_step n (by omega)]

theorem sum_l (s : ByteArray) (hs : s.size ≤ 140737488356000) (d : Nat) : ∀ (k i : Nat) (a : Int), s.size - i = d → i ≤ s.size → 0 ≤ a → a ≤ 65280 * i →
    seg_Sum.l0 (k + d + 8) s a i = some (65535 - Fo (a + Sp (i % 2 == 0) (s.data.toList.drop i))) := by
  induction d with
  | zero =>
    intro k i a hd hi h0 h1
    simp only [seg_Sum.l0]
    rw [if_neg (by omega), List.drop_eq_nil_of_le (by rw [← size_eq]; omega)]
    simp only [Sp]
    have := fold_v 6 k a h0 (by omega) (by omega)
    simpa using this
  | succ d ih =>
    intro k i a hd hi h0 h1
    rw [show k + (d + 1) + 8 = (k + d + 8) + 1 from by omega]
    have hl : i < s.data.toList.length := by rw [← size_eq]; omega
    have hc := u8_lt (s.data.toList.getD i 0)
    rw [seg_Sum.l0, if_pos (by omega), tmodn _ _ (by omega), Sp_drop _ _ hl, bt_eq, w64 (n := ((s.data.toList.getD i 0).toNat : Int)) (by omega)]
    rw [show wrap64 ((i : Int) + 1) = ((i + 1 : Nat) : Int) from by unfold wrap64; omega]
    by_cases hp : i % 2 = 0
    · rw [if_pos (by omega), if_pos (by omega), w64 (n := ((s.data.toList.getD i 0).toNat : Int) * 256) (by omega), w64 (by omega), ih k (i + 1) _ (by omega) (by omega) (by omega) (by omega)]
      rw [show (i % 2 == 0) = true from by simp [hp], show ((i + 1) % 2 == 0) = !true from by simp; omega]
      simp only [if_true]
      congr 2
      congr 1
      omega
    · rw [if_neg (by omega), if_pos (by omega), w64 (by omega), ih k (i + 1) _ (by omega) (by omega) (by omega) (by omega)]
      rw [show (i % 2 == 0) = false from by simp; omega, show ((i + 1) % 2 == 0) = !false from by simp; omega]
      simp only [Bool.false_eq_true, if_false]
      congr 2
      congr 1
      omega
/-- The checksum. -/
def ck (s : ByteArray) : Int := 65535 - Fo (Sp true s.data.toList)
theorem ck_bd (s : ByteArray) : 0 ≤ ck s ∧ ck s ≤ 65535 := by
  have := Fo_bd (Sp true s.data.toList) (by omega)
  unfold ck; omega
theorem sum_v (s : ByteArray) (hs : s.size ≤ 140737488356000) (k : Nat) : seg_Sum.f (k + s.size + 8) s = some (ck s) := by
  have := sum_l s hs s.size k 0 0 (by omega) (by omega) (by omega) (by omega)
  unfold seg_Sum.f ck
  simpa using this

theorem rsum_l (s : ByteArray) (hs : s.size ≤ 140737488356000) (d : Nat) : ∀ (k i : Nat) (a : Int) (z : Bool), s.size - i = d → i ≤ s.size → 0 ≤ a → a ≤ 65280 * i → z = decide (a = 0) →
    patchbayref3_Sum.l0 (k + d + 1) s a z i = some (65535 - Fo (a + Sp (i % 2 == 0) (s.data.toList.drop i))) := by
  induction d with
  | zero =>
    intro k i a z hd hi h0 h1 hz
    simp only [patchbayref3_Sum.l0]
    rw [if_neg (by omega), List.drop_eq_nil_of_le (by rw [← size_eq]; omega), tmodn _ _ h0]
    simp only [Sp]
    subst hz
    unfold Fo
    by_cases h : a % 65535 = 0
    · rw [if_pos h]
      by_cases ha : a = 0
      · subst ha; simp [wrap64]
      · rw [if_neg (by simp [ha])]
        congr 1
        rw [if_neg (by omega)]
        omega
    · rw [if_neg h, w64 (by omega)]
      congr 1
      rw [if_neg (by omega)]
      omega
  | succ d ih =>
    intro k i a z hd hi h0 h1 hz
    rw [show k + (d + 1) + 1 = (k + d + 1) + 1 from by omega]
    have hl : i < s.data.toList.length := by rw [← size_eq]; omega
    have hc := u8_lt (s.data.toList.getD i 0)
    rw [patchbayref3_Sum.l0, if_pos (by omega), if_pos (by omega), tmodn _ _ (by omega), Sp_drop _ _ hl, bt_eq, w64 (n := ((s.data.toList.getD i 0).toNat : Int)) (by omega)]
    rw [show wrap64 ((i : Int) + 1) = ((i + 1 : Nat) : Int) from by unfold wrap64; omega]
    by_cases hp : i % 2 = 0
    · rw [if_pos (by omega), w64 (n := ((s.data.toList.getD i 0).toNat : Int) * 256) (by omega), w64 (by omega)]
      rw [show (i % 2 == 0) = true from by simp [hp]]
      have key : ∀ z', z' = decide (a + ((s.data.toList.getD i 0).toNat : Int) * 256 = 0) → patchbayref3_Sum.l0 (k + d + 1) s (a + ((s.data.toList.getD i 0).toNat : Int) * 256) z' ((i + 1 : Nat) : Int) =
          some (65535 - Fo (a + (((if true = true then (s.data.toList.getD i 0).toNat * 256 else (s.data.toList.getD i 0).toNat) + Sp (!true) (s.data.toList.drop (i + 1)) : Nat) : Int))) := by
        intro z' hz'
        rw [ih k (i + 1) _ z' (by omega) (by omega) (by omega) (by omega) hz', show ((i + 1) % 2 == 0) = !true from by simp; omega]
        simp only [if_true]
        congr 2
        congr 1
        omega
      by_cases h : z = true
      · rw [if_pos h]
        apply key
        subst hz
        have ha : a = 0 := by simpa using h
        subst ha
        rw [Bool.eq_iff_iff]; simp
      · rw [if_neg h]
        apply key
        subst hz
        have ha : ¬ a = 0 := by simpa using h
        rw [Bool.eq_iff_iff]; simp; omega
    · rw [if_neg (by omega), w64 (by omega)]
      rw [show (i % 2 == 0) = false from by simp; omega]
      have key : ∀ z', z' = decide (a + ((s.data.toList.getD i 0).toNat : Int) = 0) → patchbayref3_Sum.l0 (k + d + 1) s (a + ((s.data.toList.getD i 0).toNat : Int)) z' ((i + 1 : Nat) : Int) =
          some (65535 - Fo (a + (((if false = true then (s.data.toList.getD i 0).toNat * 256 else (s.data.toList.getD i 0).toNat) + Sp (!false) (s.data.toList.drop (i + 1)) : Nat) : Int))) := by
        intro z' hz'
        rw [ih k (i + 1) _ z' (by omega) (by omega) (by omega) (by omega) hz', show ((i + 1) % 2 == 0) = !false from by simp; omega]
        simp only [Bool.false_eq_true, if_false]
        congr 2
        congr 1
        omega
      by_cases h : z = true
      · rw [if_pos h]
        apply key
        subst hz
        have ha : a = 0 := by simpa using h
        subst ha
        rw [Bool.eq_iff_iff]; simp
      · rw [if_neg h]
        apply key
        subst hz
        have ha : ¬ a = 0 := by simpa using h
        rw [Bool.eq_iff_iff]; simp; omega
theorem rsum_v (s : ByteArray) (hs : s.size ≤ 140737488356000) (k : Nat) : patchbayref3_Sum.f (k + s.size + 1) s = some (ck s) := by
  have := rsum_l s hs s.size k 0 0 true (by omega) (by omega) (by omega) (by omega) (by simp)
  unfold patchbayref3_Sum.f ck
  simpa using this

theorem num1 (k : Nat) (n : Int) : patchbayref3_Number.f (k + 1) n 0 = some ⟨#[]⟩ := by
  simp only [patchbayref3_Number.f, if_true]
theorem sz1 (x : Int) : (strOfNums [x]).size = 1 := rfl
theorem sz0 : (⟨#[]⟩ : ByteArray).size = 0 := rfl
theorem num_step (k : Nat) (n m : Int) (h : 0 ≤ n ∧ n < 9223372036854775808) (hm : 0 < m ∧ m ≤ 8) (t : ByteArray) (ht : t.size ≤ 100) (hr : patchbayref3_Number.f k (n / 256) (m - 1) = some t) :
    patchbayref3_Number.f (k + 1) n m = some (t ++ strOfNums [n % 256]) := by
  have e : (strOfNums [n % 256]).size = 1 := rfl
  simp only [patchbayref3_Number.f]
  rw [if_neg (by omega), Int.tdiv_eq_ediv_of_nonneg h.1, w64 (n := n / 256) (by omega), w64 (n := m - 1) (by omega), hr]
  simp only [Option.bind_some]
  rw [tmodn _ _ h.1, show n % 256 % 256 = n % 256 from by omega, if_pos (by omega)]
theorem num2 (k : Nat) (n : Int) (h : 0 ≤ n ∧ n < 9223372036854775808) : patchbayref3_Number.f (k + 3) n 2 = some (by2 n) := by
  have a := num1 k (n / 256 / 256)
  have b := num_step (k + 1) (n / 256) 1 (by omega) (by omega) ⟨#[]⟩ (by rw [sz0]; omega) a
  have c := num_step (k + 2) n 2 h (by omega) _ (by simp only [ByteArray.size_append, sz1, sz0]; omega) b
  exact c
theorem num4 (k : Nat) (n : Int) (h : 0 ≤ n ∧ n < 4294967296) : patchbayref3_Number.f (k + 5) n 4 = some (by4 n) := by
  have a := num1 k (n / 256 / 256 / 256 / 256)
  have b := num_step (k + 1) (n / 256 / 256 / 256) 1 (by omega) (by omega) ⟨#[]⟩ (by rw [sz0]; omega) a
  have c := num_step (k + 2) (n / 256 / 256) 2 (by omega) (by omega) _ (by simp only [ByteArray.size_append, sz1, sz0]; omega) b
  have d := num_step (k + 3) (n / 256) 3 (by omega) (by omega) _ (by simp only [ByteArray.size_append, sz1, sz0]; omega) c
  have e := num_step (k + 4) n 4 (by omega) (by omega) _ (by simp only [ByteArray.size_append, sz1, sz0]; omega) d
  rw [e]
  congr 1
  apply ext
  unfold by4
  simp only [app, by2_list]
  simp [strOfNums]
  refine ⟨?_, ?_, ?_⟩ <;> (congr 1; omega)

/-! The program's side. -/
theorem two_v (n : Int) : dgram_two.f n = some (by2 n) := rfl
theorem four_v (n : Int) (h : 0 ≤ n ∧ n < 4294967296) : dgram_four.f n = some (by4 n) := by
  unfold dgram_four.f
  rw [and_mask32 n h.1 h.2, w64 (n := n / 65536) (by omega), w64 (n := n % 65536) (by omega), two_v, two_v]
  simp only [Option.bind_some]
  rw [if_pos (by rw [by2_size, by2_size]; omega)]
  rfl
/-- What is summed. -/
def psd (a b : Int) (ports len body : ByteArray) : ByteArray := by4 a ++ by4 b ++ by2 17 ++ len ++ ports ++ len ++ by2 0 ++ body
theorem psd_size (a b : Int) (ports len body : ByteArray) : (psd a b ports len body).size = 12 + len.size + ports.size + len.size + body.size := by
  unfold psd; simp only [ByteArray.size_append, by4_size, by2_size]; omega
def sm (a b : Int) (ports len body : ByteArray) : Int := if ck (psd a b ports len body) = 0 then 65535 else ck (psd a b ports len body)
theorem sm_bd (a b : Int) (ports len body : ByteArray) : 0 ≤ sm a b ports len body ∧ sm a b ports len body < 65536 := by
  have := ck_bd (psd a b ports len body)
  unfold sm; split <;> omega
theorem psum_v (a b : Int) (ports len body : ByteArray) (ha : 0 ≤ a ∧ a < 4294967296) (hb : 0 ≤ b ∧ b < 4294967296) (hp : ports.size ≤ 10) (hl : len.size ≤ 10) (hbd : body.size ≤ 140737488355328) (k : Nat) (hk : (psd a b ports len body).size + 8 ≤ k) :
    dgram_sum.f k a b ports len body = some (sm a b ports len body) := by
  unfold dgram_sum.f
  rw [four_v a ha, four_v b hb, two_v, two_v]
  simp only [Option.bind_some]
  have s4 := by4_size a
  have s4b := by4_size b
  have s2 := by2_size 17
  have s20 := by2_size 0
  rw [if_pos (by omega), if_pos (by simp only [ByteArray.size_append]; omega), if_pos (by simp only [ByteArray.size_append]; omega), if_pos (by simp only [ByteArray.size_append]; omega), if_pos (by simp only [ByteArray.size_append]; omega), if_pos (by simp only [ByteArray.size_append]; omega), if_pos (by simp only [ByteArray.size_append]; omega)]
  have hz := psd_size a b ports len body
  have := sum_v (psd a b ports len body) (by omega) (k - (psd a b ports len body).size - 8)
  rw [show k - (psd a b ports len body).size - 8 + (psd a b ports len body).size + 8 = k from by omega] at this
  rw [show seg_Sum.f k (by4 a ++ by4 b ++ by2 17 ++ len ++ ports ++ len ++ by2 0 ++ body) = some (ck (psd a b ports len body)) from this]
  simp only [Option.bind_some]
  unfold sm
  split <;> rfl

/-- The error of a datagram, and its encoding. -/
def dE (src dst : Int) (n : Nat) : Int := if (0 ≤ src ∧ src ≤ 65535) ∧ (0 ≤ dst ∧ dst ≤ 65535) then (if n > 1024 then 2 else 0) else 1
theorem dE_zero {src dst : Int} {n : Nat} (h : dE src dst n = 0) : ((0 ≤ src ∧ src ≤ 65535) ∧ (0 ≤ dst ∧ dst ≤ 65535)) ∧ n ≤ 1024 := by
  unfold dE at h; split at h
  · split at h
    · omega
    · exact ⟨by assumption, by omega⟩
  · omega
theorem bad_v (n : Int) : dgram_badPort.f n = some (!decide (0 ≤ n ∧ n ≤ 65535)) := by
  unfold dgram_badPort.f
  by_cases h : n < 0
  · rw [if_pos h]; congr 1; symm; simp; omega
  · rw [if_neg h]; congr 1; rw [Bool.eq_iff_iff]; simp; omega
theorem pcheck_v (k : Nat) (src dst : Int) (s : ByteArray) : dgram_Check.f (k + 1) src dst s = some (dE src dst s.size) := by
  unfold dgram_Check.f dE
  rw [bad_v, bad_v]
  simp only [Option.bind_some, dgram_Check.j0]
  by_cases h1 : 0 ≤ src ∧ src ≤ 65535
  · rw [decide_eq_true h1]
    simp only [Bool.not_true, Bool.false_eq_true, if_false, if_true]
    by_cases h2 : 0 ≤ dst ∧ dst ≤ 65535
    · rw [decide_eq_true h2, if_pos (show (0 ≤ src ∧ src ≤ 65535) ∧ (0 ≤ dst ∧ dst ≤ 65535) from ⟨h1, h2⟩)]
      simp only [Bool.not_true, Bool.false_eq_true, if_false]
      by_cases h3 : s.size > 1024
      · rw [if_pos h3, if_pos (show (s.size : Int) > 1024 by omega)]
      · rw [if_neg h3, if_neg (show ¬ (s.size : Int) > 1024 by omega)]
    · rw [decide_eq_false h2, if_neg (show ¬ ((0 ≤ src ∧ src ≤ 65535) ∧ (0 ≤ dst ∧ dst ≤ 65535)) from fun q => h2 q.2)]
      simp only [Bool.not_false, if_true]
  · rw [decide_eq_false h1, if_neg (show ¬ ((0 ≤ src ∧ src ≤ 65535) ∧ (0 ≤ dst ∧ dst ≤ 65535)) from fun q => h1 q.1)]
    simp only [Bool.not_false, if_true, Bool.false_eq_true, if_false]
theorem rin (a b c : Int) : patchbayref3_In.f a b c = some (decide (b ≤ a ∧ a ≤ c)) := by
  unfold patchbayref3_In.f; by_cases h : a ≥ b
  · rw [if_pos h]; simp [show b ≤ a from h]
  · rw [if_neg h]; simp [show ¬ b ≤ a from h]
theorem rfault_v (k : Nat) (src dst : Int) (s : ByteArray) : patchbayref3_DgramFault.f (k + 1) src dst s = some (dE src dst s.size) := by
  unfold patchbayref3_DgramFault.f dE
  rw [rin, rin]
  simp only [Option.bind_some, patchbayref3_DgramFault.j0]
  by_cases h1 : 0 ≤ src ∧ src ≤ 65535
  · rw [decide_eq_true h1]
    simp only [Bool.not_true, Bool.false_eq_true, if_false, if_true]
    by_cases h2 : 0 ≤ dst ∧ dst ≤ 65535
    · rw [decide_eq_true h2, if_pos (show (0 ≤ src ∧ src ≤ 65535) ∧ (0 ≤ dst ∧ dst ≤ 65535) from ⟨h1, h2⟩)]
      simp only [Bool.not_true, Bool.false_eq_true, if_false]
      by_cases h3 : s.size > 1024
      · rw [if_pos h3, if_pos (show (s.size : Int) > 1024 by omega)]
      · rw [if_neg h3, if_neg (show ¬ (s.size : Int) > 1024 by omega)]
    · rw [decide_eq_false h2, if_neg (show ¬ ((0 ≤ src ∧ src ≤ 65535) ∧ (0 ≤ dst ∧ dst ≤ 65535)) from fun q => h2 q.2)]
      simp only [Bool.not_false, if_true]
  · rw [decide_eq_false h1, if_neg (show ¬ ((0 ≤ src ∧ src ≤ 65535) ∧ (0 ≤ dst ∧ dst ≤ 65535)) from fun q => h1 q.1)]
    simp only [Bool.not_false, if_true, Bool.false_eq_true, if_false]

/-- The encoding. -/
def enc (a b src dst : Int) (s : ByteArray) : ByteArray :=
  by2 src ++ by2 dst ++ by2 (8 + (s.size : Int)) ++ by2 (sm a b (by2 src ++ by2 dst) (by2 (8 + (s.size : Int))) s) ++ s
theorem penc_v (a b src dst : Int) (s : ByteArray) (ha : 0 ≤ a ∧ a < 4294967296) (hb : 0 ≤ b ∧ b < 4294967296) (h : dE src dst s.size = 0) (k : Nat) (hk : 2000 ≤ k) :
    dgram_Encode.f k a b src dst s = some (enc a b src dst s, 0) := by
  obtain ⟨⟨h1, h2⟩, h3⟩ := dE_zero h
  obtain ⟨k, rfl⟩ : ∃ m, k = m + 1 := ⟨k - 1, by omega⟩
  unfold dgram_Encode.f
  rw [pcheck_v, h, Option.bind_some, if_pos rfl]
  rw [two_v, two_v, w64 (n := 8 + (s.size : Int)) (by omega), two_v, Option.bind_some, Option.bind_some]
  have z1 := by2_size src
  have z2 := by2_size dst
  have z3 := by2_size (8 + (s.size : Int))
  have z4 : (by2 src ++ by2 dst).size = 4 := by rw [ByteArray.size_append]; omega
  rw [if_pos (by omega), Option.bind_some, if_pos (by simp only [ByteArray.size_append]; omega)]
  rw [psum_v a b _ _ s ha hb (by omega) (by omega) (by omega) (k + 1) (by rw [psd_size]; omega), Option.bind_some, two_v, Option.bind_some]
  have z5 := by2_size (sm a b (by2 src ++ by2 dst) (by2 (8 + (s.size : Int))) s)
  rw [if_pos (by simp only [ByteArray.size_append]; omega), if_pos (by simp only [ByteArray.size_append]; omega)]
  unfold enc
  exact Eq.refl _
theorem penc_e (a b src dst : Int) (s : ByteArray) (h : dE src dst s.size ≠ 0) (k : Nat) : dgram_Encode.f (k + 1) a b src dst s = some (⟨#[]⟩, dE src dst s.size) := by
  unfold dgram_Encode.f
  rw [pcheck_v]
  simp only [Option.bind_some]
  rw [if_neg h]

theorem renc_v (a b src dst : Int) (s : ByteArray) (ha : 0 ≤ a ∧ a < 4294967296) (hb : 0 ≤ b ∧ b < 4294967296) (h1 : 0 ≤ src ∧ src ≤ 65535) (h2 : 0 ≤ dst ∧ dst ≤ 65535) (h3 : s.size ≤ 1100) (k : Nat) (hk : 2000 ≤ k) :
    patchbayref3_DgramBytes.f k a b src dst s = some (enc a b src dst s) := by
  obtain ⟨k, rfl⟩ : ∃ m, k = m + 5 := ⟨k - 5, by omega⟩
  unfold patchbayref3_DgramBytes.f
  have n2 : ∀ n, 0 ≤ n ∧ n < 9223372036854775808 → patchbayref3_Number.f (k + 5) n 2 = some (by2 n) := fun n hn => num2 (k + 2) n hn
  rw [w64 (n := 8 + (s.size : Int)) (by omega), n2 _ (by omega), n2 _ (by omega), n2 _ (by omega), w64 (n := a) (by omega), w64 (n := b) (by omega), num4 k a ha, num4 k b hb, n2 17 (by omega), n2 0 (by omega), n2 65535 (by omega)]
  simp only [Option.bind_some]
  have z1 := by2_size src
  have z2 := by2_size dst
  have z3 := by2_size (8 + (s.size : Int))
  have z4 := by4_size a
  have z5 := by4_size b
  have z6 := by2_size 17
  have z7 := by2_size 0
  have z8 := by2_size 65535
  rw [if_pos (by omega), if_pos (by omega), if_pos (by simp only [ByteArray.size_append]; omega), if_pos (by simp only [ByteArray.size_append]; omega), if_pos (by simp only [ByteArray.size_append]; omega), if_pos (by simp only [ByteArray.size_append]; omega), if_pos (by simp only [ByteArray.size_append]; omega), if_pos (by simp only [ByteArray.size_append]; omega)]
  have hz := psd_size a b (by2 src ++ by2 dst) (by2 (8 + (s.size : Int))) s
  rw [ByteArray.size_append] at hz
  have := rsum_v (psd a b (by2 src ++ by2 dst) (by2 (8 + (s.size : Int))) s) (by omega) (k + 5 - (psd a b (by2 src ++ by2 dst) (by2 (8 + (s.size : Int))) s).size - 1)
  rw [show k + 5 - (psd a b (by2 src ++ by2 dst) (by2 (8 + (s.size : Int))) s).size - 1 + (psd a b (by2 src ++ by2 dst) (by2 (8 + (s.size : Int))) s).size + 1 = k + 5 from by omega] at this
  rw [show patchbayref3_Sum.f (k + 5) (by4 a ++ by4 b ++ by2 17 ++ by2 (8 + (s.size : Int)) ++ (by2 src ++ by2 dst) ++ by2 (8 + (s.size : Int)) ++ by2 0 ++ s) = some (ck (psd a b (by2 src ++ by2 dst) (by2 (8 + (s.size : Int))) s)) from this]
  simp only [Option.bind_some]
  by_cases hc : ck (psd a b (by2 src ++ by2 dst) (by2 (8 + (s.size : Int))) s) = 0
  · rw [if_pos hc, if_pos (by simp only [ByteArray.size_append]; omega), if_pos (by simp only [ByteArray.size_append]; omega), if_pos (by simp only [ByteArray.size_append]; omega)]
    unfold enc sm
    rw [if_pos hc]
  · have hb2 := ck_bd (psd a b (by2 src ++ by2 dst) (by2 (8 + (s.size : Int))) s)
    rw [if_neg hc, if_pos (by simp only [ByteArray.size_append]; omega), n2 _ (by omega)]
    simp only [Option.bind_some]
    have z9 := by2_size (ck (psd a b (by2 src ++ by2 dst) (by2 (8 + (s.size : Int))) s))
    rw [if_pos (by simp only [ByteArray.size_append]; omega), if_pos (by simp only [ByteArray.size_append]; omega)]
    unfold enc sm
    rw [if_neg hc]

theorem word_v (s : ByteArray) (i : Nat) (h : i + 2 ≤ s.size) (h2 : i < 1000) : dgram_word.f s (i : Int) = some (rd2 s i) := by
  unfold dgram_word.f
  have a := u8_lt (s.data.toList.getD i 0)
  have b := u8_lt (s.data.toList.getD (i + 1) 0)
  rw [show wrap64 ((i : Int) + 1) = ((i + 1 : Nat) : Int) from by unfold wrap64; omega]
  rw [if_pos (by omega), if_pos (by omega), if_pos (by omega), if_pos (by omega), bt_eq, bt_eq, w64 (n := ((s.data.toList.getD i 0).toNat : Int)) (by omega), w64 (n := ((s.data.toList.getD (i + 1) 0).toNat : Int)) (by omega), w64 (n := ((s.data.toList.getD i 0).toNat : Int) * 256) (by omega), or_join _ _ (by omega) (by omega)]
  rfl
theorem read2 (s : ByteArray) (h : s.size = 2) (k : Nat) : patchbayref3_Read.f (k + 3) s = some (rd2 s 0) := by
  unfold patchbayref3_Read.f
  have a := u8_lt (s.data.toList.getD 0 0)
  have b := u8_lt (s.data.toList.getD 1 0)
  have b0 := bt_eq s 0
  have b1 := bt_eq s 1
  simp only [Int.natCast_zero, Int.natCast_one] at b0 b1
  rw [patchbayref3_Read.l0, if_pos (by omega), if_pos (by omega), b0, show wrap64 (0 + 1) = (1 : Int) from by unfold wrap64; omega, show wrap64 (0 * 256) = (0 : Int) from by unfold wrap64; omega, w64 (n := ((s.data.toList.getD 0 0).toNat : Int)) (by omega), w64 (n := 0 + ((s.data.toList.getD 0 0).toNat : Int)) (by omega)]
  rw [patchbayref3_Read.l0, if_pos (by omega), if_pos (by omega), b1, show wrap64 (1 + 1) = (2 : Int) from by unfold wrap64; omega, w64 (n := ((s.data.toList.getD 1 0).toNat : Int)) (by omega), w64 (n := (0 + ((s.data.toList.getD 0 0).toNat : Int)) * 256) (by omega), w64 (by omega)]
  rw [patchbayref3_Read.l0, if_neg (by omega), Int.zero_add]
  rfl
theorem rd2_cut (s : ByteArray) (i : Nat) : rd2 (s.extract i (i + 2)) 0 = rd2 s i := by
  unfold rd2
  rw [cut, show i + 2 - i = 2 from by omega]
  simp [List.getD_eq_getElem?_getD, List.getElem?_take, List.getElem?_drop]
theorem cut_size (s : ByteArray) (i : Nat) (h : i + 2 ≤ s.size) : (s.extract i (i + 2)).size = 2 := by rw [ByteArray.size_extract]; omega

theorem take_two (M : List UInt8) (p q : Nat) (h : p ≤ q) : M.take p ++ (M.drop p).take (q - p) = M.take q := by
  have := List.take_add (l := M) (i := p) (j := q - p)
  rw [show p + (q - p) = q from by omega] at this
  exact this.symm
theorem join_cut (s : ByteArray) (i j l : Nat) (h1 : i ≤ j) (h2 : j ≤ l) (h3 : l ≤ s.size) : s.extract i j ++ s.extract j l = s.extract i l := by
  apply ext
  rw [app, cut, cut, cut]
  have : (s.data.toList.drop j) = (s.data.toList.drop i).drop (j - i) := by rw [List.drop_drop]; congr 1; omega
  have k := take_two (s.data.toList.drop i) (j - i) (l - i) (by omega)
  rw [show l - i - (j - i) = l - j from by omega] at k
  rw [this]
  exact k
theorem cut_all (s : ByteArray) : s.extract 0 s.size = s := by
  apply ext; rw [cut, Nat.sub_zero, List.drop_zero, size_eq, List.take_length]
theorem enc_cut (a b : Int) (s : ByteArray) (h8 : 8 ≤ s.size) (h : rd2 s 4 = s.size) :
    enc a b (rd2 s 0) (rd2 s 2) (s.extract 8 s.size) = s.extract 0 6 ++ by2 (sm a b (s.extract 0 4) (s.extract 4 6) (s.extract 8 s.size)) ++ s.extract 8 s.size := by
  unfold enc
  have e : (8 + ((s.extract 8 s.size).size : Int)) = rd2 s 4 := by rw [ByteArray.size_extract, h]; omega
  rw [e, by2_rd2 s 4 (by omega), by2_rd2 s 0 (by omega), by2_rd2 s 2 (by omega)]
  rw [join_cut s 0 2 4 (by omega) (by omega) (by omega), join_cut s 0 4 6 (by omega) (by omega) (by omega)]
theorem enc_iff (a b : Int) (s : ByteArray) (h8 : 8 ≤ s.size) (h : rd2 s 4 = s.size) :
    enc a b (rd2 s 0) (rd2 s 2) (s.extract 8 s.size) = s ↔ rd2 s 6 = sm a b (s.extract 0 4) (s.extract 4 6) (s.extract 8 s.size) := by
  rw [enc_cut a b s h8 h]
  have hs := sm_bd a b (s.extract 0 4) (s.extract 4 6) (s.extract 8 s.size)
  generalize sm a b (s.extract 0 4) (s.extract 4 6) (s.extract 8 s.size) = z at *
  have whole : s.extract 0 6 ++ s.extract 6 8 ++ s.extract 8 s.size = s := by
    rw [join_cut s 0 6 8 (by omega) (by omega) (by omega), join_cut s 0 8 s.size (by omega) (by omega) (by omega), cut_all]
  constructor
  · intro he
    have h2 := congrArg (fun s : ByteArray => s.data.toList) (he.trans whole.symm)
    simp only [app] at h2
    have h3 := List.append_cancel_left (List.append_cancel_right h2)
    have h4 : by2 z = by2 (rd2 s 6) := by rw [by2_rd2 s 6 (by omega)]; exact ext h3
    exact (by2_inj _ _ hs (rd2_bd s 6) h4).symm
  · intro he
    rw [← he, by2_rd2 s 6 (by omega)]
    exact whole

/-- What both decodings return. -/
def dec (a b : Int) (s : ByteArray) : Int × Int × ByteArray × Int :=
  if s.size < 8 then (0, 0, ⟨#[]⟩, 9) else if rd2 s 4 = s.size ∧ s.size ≤ 1032 then
    (if rd2 s 6 = sm a b (s.extract 0 4) (s.extract 4 6) (s.extract 8 s.size) then (rd2 s 0, rd2 s 2, s.extract 8 s.size, 0) else (0, 0, ⟨#[]⟩, 8)) else (0, 0, ⟨#[]⟩, 3)

theorem pdec_v (a b : Int) (s : ByteArray) (ha : 0 ≤ a ∧ a < 4294967296) (hb : 0 ≤ b ∧ b < 4294967296) (k : Nat) (hk : 2000 ≤ k) : dgram_Decode.f k a b s = some (dec a b s) := by
  obtain ⟨k, rfl⟩ : ∃ m, k = m + 1 := ⟨k - 1, by omega⟩
  unfold dgram_Decode.f dec
  by_cases h1 : s.size < 8
  · rw [if_pos h1, if_pos (by omega)]
  · rw [if_neg h1, if_neg (by omega)]
    rw [show (4 : Int) = ((4 : Nat) : Int) from rfl, word_v s 4 (by omega) (by omega), Option.bind_some]
    by_cases h2 : rd2 s 4 = s.size
    · rw [if_pos h2]
      by_cases h3 : s.size ≤ 1032
      · rw [if_pos (show rd2 s 4 = s.size ∧ s.size ≤ 1032 from ⟨h2, h3⟩), dgram_Decode.j0, if_neg (by simp; omega)]
        rw [show (6 : Int) = ((6 : Nat) : Int) from rfl, word_v s 6 (by omega) (by omega), Option.bind_some]
        rw [if_pos (by omega), if_pos (by omega), if_pos (by omega), if_pos (by omega), if_pos (by omega)]
        rw [psum_v a b _ _ _ ha hb (by rw [ByteArray.size_extract]; omega) (by rw [ByteArray.size_extract]; omega) (by rw [ByteArray.size_extract]; omega) k (by rw [psd_size, ByteArray.size_extract, ByteArray.size_extract, ByteArray.size_extract]; omega), Option.bind_some]
        by_cases h4 : rd2 s 6 = sm a b (s.extract 0 4) (s.extract 4 6) (s.extract 8 s.size)
        · rw [if_pos h4, if_pos h4]
          rw [show (0 : Int) = ((0 : Nat) : Int) from rfl, word_v s 0 (by omega) (by omega), Option.bind_some, show (2 : Int) = ((2 : Nat) : Int) from rfl, word_v s 2 (by omega) (by omega), Option.bind_some]
        · rw [if_neg h4, if_neg h4]
      · rw [if_neg (show ¬ (rd2 s 4 = s.size ∧ s.size ≤ 1032) from fun q => h3 q.2), dgram_Decode.j0, if_pos (by simp; omega)]
    · rw [if_neg h2, if_neg (show ¬ (rd2 s 4 = s.size ∧ s.size ≤ 1032) from fun q => h2 q.1), dgram_Decode.j0, if_pos rfl]

theorem rdec_v (a b : Int) (s : ByteArray) (ha : 0 ≤ a ∧ a < 4294967296) (hb : 0 ≤ b ∧ b < 4294967296) (k : Nat) (hk : 2004 ≤ k) : patchbayref3_DgramOf.f k a b s = some (dec a b s) := by
  obtain ⟨k, rfl⟩ : ∃ m, k = m + 4 := ⟨k - 4, by omega⟩
  unfold patchbayref3_DgramOf.f dec
  have r : ∀ i j : Nat, j = i + 2 → j ≤ s.size → ∀ k, patchbayref3_Read.f (k + 3) (s.extract i j) = some (rd2 s i) := by
    rintro i j rfl hj k
    rw [read2 _ (cut_size s i hj), rd2_cut]
  by_cases h1 : s.size < 8
  · rw [if_pos h1, if_pos (by omega)]
  · rw [if_neg h1, if_neg (by omega), if_pos (by omega), if_pos (by omega), r 4 6 rfl (by omega) (k + 1), Option.bind_some]
    by_cases h2 : rd2 s 4 = s.size
    · rw [if_pos h2]
      by_cases h3 : s.size ≤ 1032
      · rw [if_pos (show rd2 s 4 = s.size ∧ s.size ≤ 1032 from ⟨h2, h3⟩), patchbayref3_DgramOf.j0, if_neg (by simp; omega)]
        rw [if_pos (by omega), if_pos (by omega), r 0 2 rfl (by omega) k, Option.bind_some, if_pos (by omega), if_pos (by omega), r 2 4 rfl (by omega) k, Option.bind_some, if_pos (by omega)]
        have b0 := rd2_bd s 0
        have b2 := rd2_bd s 2
        rw [renc_v a b _ _ _ ha hb (by omega) (by omega) (by rw [ByteArray.size_extract]; omega) (k + 3) (by omega), Option.bind_some]
        by_cases h4 : rd2 s 6 = sm a b (s.extract 0 4) (s.extract 4 6) (s.extract 8 s.size)
        · rw [if_pos h4, if_pos ((toList_iff _ _).2 ((enc_iff a b s (by omega) h2).2 h4))]
        · rw [if_neg h4, if_neg (fun q => h4 ((enc_iff a b s (by omega) h2).1 ((toList_iff _ _).1 q)))]
      · rw [if_neg (show ¬ (rd2 s 4 = s.size ∧ s.size ≤ 1032) from fun q => h3 q.2), patchbayref3_DgramOf.j0, if_pos (by simp; omega)]
    · rw [if_neg h2, if_neg (show ¬ (rd2 s 4 = s.size ∧ s.size ≤ 1032) from fun q => h2 q.1), patchbayref3_DgramOf.j0, if_pos rfl]

theorem fact_v (k : Nat) (hk : 2000 ≤ k) : patchbaylaw3_dgramFact.f k = some true := by
  unfold patchbaylaw3_dgramFact.f
  rw [penc_v 1 2 3 4 ⟨#[120]⟩ (by omega) (by omega) (by decide) k hk, Option.bind_some]
  have e : (enc 1 2 3 4 ⟨#[120]⟩).size = 9 := by
    unfold enc
    simp only [ByteArray.size_append, by2_size]
    rfl
  rw [if_pos rfl]
  show some (((enc 1 2 3 4 ⟨#[120]⟩).size : Int) == 9) = some true
  rw [e]; rfl

theorem last_v (a b src dst : Int) (s t : ByteArray) (x : ByteArray) (ha : 0 ≤ a ∧ a < 4294967296) (hb : 0 ≤ b ∧ b < 4294967296) (k : Nat) (hk : 2004 ≤ k)
    (hx : dgram_Encode.f k a b src dst s = some (x, dE src dst s.size)) : patchbaylaw3_DgramSays.j0 (k + 1) a b t (dE src dst s.size) x src dst s = some true := by
  rw [patchbaylaw3_DgramSays.j0, hx, Option.bind_some, pdec_v a b t ha hb k (by omega), Option.bind_some, rdec_v a b t ha hb k hk, Option.bind_some]
  obtain ⟨k, rfl⟩ : ∃ m, k = m + 1 := ⟨k - 1, by omega⟩
  rw [pcheck_v, Option.bind_some, if_pos rfl, if_pos rfl, if_pos rfl]
  obtain ⟨d1, d2, d3, d4⟩ := dec a b t
  simp

theorem law (a b src dst : Int) (s t : ByteArray) (ha : 0 ≤ a ∧ a < 4294967296) (hb : 0 ≤ b ∧ b < 4294967296) : patchbaylaw3_DgramSays.f 3000 a b src dst s t = some true := by
  unfold patchbaylaw3_DgramSays.f
  rw [fact_v 3000 (by omega), Option.bind_some, if_pos rfl, rfault_v 2999, Option.bind_some]
  by_cases h : dE src dst s.size = 0
  · obtain ⟨⟨h1, h2⟩, h3⟩ := dE_zero h
    rw [if_pos h, renc_v a b src dst s ha hb h1 h2 (by omega) 3000 (by omega), Option.bind_some]
    exact last_v a b src dst s t _ ha hb 2999 (by omega) (by rw [h]; exact penc_v a b src dst s ha hb h 2999 (by omega))
  · rw [if_neg h]
    exact last_v a b src dst s t _ ha hb 2999 (by omega) (penc_e a b src dst s h 2998)

end Go.Proofs.Ytjiiejeldgkdiaa.Dgram
