/- Proved: plain facts on byte strings: the Internet checksum in its two forms, numbers in two and four bytes. Every lemma names its own bounds. -/
import Derived.Test.YtjiiejeldgkdiaaSegW
import Derived.Laws.BitsLemmas
import Derived.Laws.Strings
set_option linter.unusedVariables false
set_option linter.unusedSimpArgs false
namespace Go.Proofs.Ytjiiejeldgkdiaa.Bytes
open Go Go.RowKit Go.Proofs.YtjiiejeldgkdiaaW.PrintWords

theorem ext {a b : ByteArray} (h : a.data.toList = b.data.toList) : a = b := by
  cases a; cases b; simp at h; subst h; rfl
theorem toList_iff (a b : ByteArray) : a.toList = b.toList ↔ a = b := by
  rw [ByteArray.toList_eq, ByteArray.toList_eq]; exact ⟨ext, fun h => by rw [h]⟩
theorem size_eq (s : ByteArray) : s.size = s.data.toList.length := (Array.length_toList (xs := s.data)).symm
theorem app (a b : ByteArray) : (a ++ b).data.toList = a.data.toList ++ b.data.toList := by simp [ByteArray.data_append]
theorem cut (s : ByteArray) (i j : Nat) : (s.extract i j).data.toList = (s.data.toList.drop i).take (j - i) := by
  simp [ByteArray.data_extract]
theorem bt_eq (s : ByteArray) (i : Nat) : bt s (i : Int) = ((s.data.toList.getD i 0).toNat : Int) := by
  unfold bt
  simp only [Int.toNat_natCast]
  by_cases h : i < s.size
  · rw [dif_pos h]
    have hl : i < s.data.toList.length := by rw [← size_eq]; exact h
    rw [List.getD_eq_getElem?_getD, List.getElem?_eq_getElem hl]
    rfl
  · rw [dif_neg h]
    have hl : s.data.toList.length ≤ i := by rw [← size_eq]; omega
    rw [List.getD_eq_getElem?_getD, List.getElem?_eq_none hl]
    rfl

/-- The sum of a string's 16-bit words; p: the first byte is a high one. -/
def Sp : Bool → List UInt8 → Nat
  | _, [] => 0
  | p, c :: l => (if p then c.toNat * 256 else c.toNat) + Sp (!p) l
theorem u8_lt (c : UInt8) : c.toNat < 256 := c.toNat_lt
theorem Sp_le : ∀ (l : List UInt8) (p : Bool), Sp p l ≤ 65280 * l.length
  | [], p => by simp [Sp]
  | c :: l, p => by
    have h := Sp_le l (!p)
    have hc := u8_lt c
    simp only [Sp, List.length_cons]
    split <;> omega
theorem Sp_drop (l : List UInt8) (i : Nat) (h : i < l.length) (p : Bool) : Sp p (l.drop i) = (if p then (l.getD i 0).toNat * 256 else (l.getD i 0).toNat) + Sp (!p) (l.drop (i + 1)) := by
  rw [List.drop_eq_getElem_cons h]
  simp only [Sp]
  rw [List.getD_eq_getElem?_getD, List.getElem?_eq_getElem h]
  rfl
/-- The ones' complement sum. -/
def Fo (n : Int) : Int := if n = 0 then 0 else (n - 1) % 65535 + 1
theorem Fo_step (n : Int) (h : 65535 < n) : Fo (n % 65536 + n / 65536) = Fo n := by
  unfold Fo
  rw [if_neg (by omega), if_neg (by omega)]
  omega
theorem Fo_small (n : Int) (h : 0 ≤ n) (h2 : n ≤ 65535) : Fo n = n := by
  unfold Fo; split <;> omega
theorem Fo_bd (n : Int) (h : 0 ≤ n) : 0 ≤ Fo n ∧ Fo n ≤ 65535 := by
  unfold Fo; split <;> omega
theorem and_mask (x : Int) (h0 : 0 ≤ x) (h1 : x < 9223372036854775808) : bits .and .i64 x 65535 = x % 65536 := by
  have := bits_mask .i64 63 (by decide) (by intro n a b; rw [IntKind.wrap_i64]; have : n < 9223372036854775808 := b; omega) 16 (by decide) x h0 (by simpa using h1)
  simpa using this
theorem and_mask32 (x : Int) (h0 : 0 ≤ x) (h1 : x < 4294967296) : bits .and .u32 x 65535 = x % 65536 := by
  have := bits_mask .u32 32 (by decide) (by intro n a b; rw [IntKind.wrap_u32]; have : n < 4294967296 := b; omega) 16 (by decide) x h0 (by simpa using h1)
  simpa using this
theorem or_join (x y : Int) (hx : 0 ≤ x ∧ x < 256) (hy : 0 ≤ y ∧ y < 256) : bits .or .i64 (x * 256) y = x * 256 + y := by
  exact bits_join .i64 63 (by decide) (by intro n a b; rw [IntKind.wrap_i64]; have : n < 9223372036854775808 := b; omega) 8 (x * 256) y (by omega) (by omega) (by have : (2 : Int) ^ 63 = 9223372036854775808 := rfl; omega) (by omega) (by have : (2 : Int) ^ 8 = 256 := rfl; omega) (by have : (2 : Int) ^ 63 = 9223372036854775808 := rfl; omega)

/-- A number in two bytes. -/
def by2 (n : Int) : ByteArray := strOfNums [(n / 256) % 256, n % 256]
theorem by2_size (n : Int) : (by2 n).size = 2 := rfl
theorem by2_list (n : Int) : (by2 n).data.toList = [UInt8.ofNat ((n / 256) % 256).toNat, UInt8.ofNat (n % 256).toNat] := rfl
theorem ofNat_inj (a b : Nat) (ha : a < 256) (hb : b < 256) (h : UInt8.ofNat a = UInt8.ofNat b) : a = b := by
  have := congrArg UInt8.toNat h
  simp [UInt8.toNat_ofNat'] at this
  omega
theorem by2_inj (n m : Int) (hn : 0 ≤ n ∧ n < 65536) (hm : 0 ≤ m ∧ m < 65536) (h : by2 n = by2 m) : n = m := by
  have h' := congrArg (fun s : ByteArray => s.data.toList) h
  simp only [by2_list, List.cons.injEq, and_true] at h'
  have a := ofNat_inj _ _ (by omega) (by omega) h'.1
  have b := ofNat_inj _ _ (by omega) (by omega) h'.2
  omega
/-- Two bytes, read. -/
def rd2 (s : ByteArray) (i : Nat) : Int := ((s.data.toList.getD i 0).toNat : Int) * 256 + ((s.data.toList.getD (i + 1) 0).toNat : Int)
theorem rd2_bd (s : ByteArray) (i : Nat) : 0 ≤ rd2 s i ∧ rd2 s i < 65536 := by
  unfold rd2
  have a := u8_lt (s.data.toList.getD i 0)
  have b := u8_lt (s.data.toList.getD (i + 1) 0)
  omega
theorem by2_rd2 (s : ByteArray) (i : Nat) (h : i + 2 ≤ s.size) : by2 (rd2 s i) = s.extract i (i + 2) := by
  apply ext
  rw [by2_list, cut]
  have a := u8_lt (s.data.toList.getD i 0)
  have b := u8_lt (s.data.toList.getD (i + 1) 0)
  have e1 : ((rd2 s i / 256) % 256).toNat = (s.data.toList.getD i 0).toNat := by unfold rd2; omega
  have e2 : (rd2 s i % 256).toNat = (s.data.toList.getD (i + 1) 0).toNat := by unfold rd2; omega
  rw [e1, e2, UInt8.ofNat_toNat, UInt8.ofNat_toNat]
  rw [size_eq] at h
  rw [show i + 2 - i = 2 from by omega, List.drop_eq_getElem_cons (by omega), List.drop_eq_getElem_cons (by omega)]
  simp only [List.take_succ_cons, List.take_zero]
  rw [List.getD_eq_getElem?_getD, List.getD_eq_getElem?_getD, List.getElem?_eq_getElem (by omega), List.getElem?_eq_getElem (by omega)]
  rfl

/-- A number in four bytes. -/
def by4 (n : Int) : ByteArray := by2 (n / 65536) ++ by2 (n % 65536)
theorem by4_size (n : Int) : (by4 n).size = 4 := by unfold by4; simp [ByteArray.size_append, by2_size]

theorem Sp_app : ∀ (a b : List UInt8) (p : Bool), a.length % 2 = 0 → Sp p (a ++ b) = Sp p a + Sp p b
  | [], b, p, _ => by simp [Sp]
  | [c], b, p, h => by simp at h
  | c :: d :: a, b, p, h => by
    have ih := Sp_app a b p (by simp at h; omega)
    simp only [List.cons_append, Sp, Bool.not_not, ih]
    omega
end Go.Proofs.Ytjiiejeldgkdiaa.Bytes
