/- Proved: what the reference's functions of a receive buffer return, told by the rows of the program's buffer. No condition. -/
import Derived.Test.YtcllcjflgeiehaaRecvBlocks
import Derived.Test.YtcllcjflgeiehaaRecvIn
import Derived.Test.YtcllcjflgeiehaaPRecvPlaysx3
import Derived.Test.YtcllcjflgeiehaaPRecvPlaysx4
import Derived.Test.YtcllcjflgeiehaaPRecvPlaysx5
namespace Go.Proofs.Ytcllcjflgeiehaa.PRecvPlays
open Go.RowKit Go.Proofs.YtcllcjflgeiehaaW.PrintWords Go.Proofs.YtcllcjflgeiehaaW.PrintLast Go.Proofs.YtcllcjflgeiehaaW.PrintMore
set_option linter.unusedVariables false
set_option linter.unusedSimpArgs false
theorem w64 {n : Int} (h : -9223372036854775808 ≤ n ∧ n ≤ 9223372036854775807) : wrap64 n = n := by unfold wrap64; omega
theorem tm (n : Int) : Int.tmod n 4294967296 = if 0 ≤ n then n % 4294967296 else -(-n % 4294967296) := by
  by_cases h : 0 ≤ n
  · rw [if_pos h]; exact Int.tmod_eq_emod_of_nonneg h
  · rw [if_neg h]
    have e : Int.tmod (-(-n)) 4294967296 = -(Int.tmod (-n) 4294967296) := Int.neg_tmod _ _
    rw [Int.neg_neg] at e
    rw [e, Int.tmod_eq_emod_of_nonneg (by omega)]
theorem round_v (n : Int) (h : -9223372036854775808 ≤ n ∧ n ≤ 9223372036854775807) : patchbayref3_Round.f n = some (n % 4294967296) := by
  unfold patchbayref3_Round.f
  rw [tm]
  by_cases h0 : 0 ≤ n
  · simp only [h0, if_true]
    rw [if_neg (by omega)]
  · simp only [h0, if_false]
    by_cases h1 : -(-n % 4294967296) < 0
    · rw [if_pos h1]; congr 1; unfold wrap64; omega
    · rw [if_neg h1]; congr 1; omega
def sd (a b : Int) : Int := (a - b + 2147483648) % 4294967296 - 2147483648
def U32 (a : Int) : Prop := 0 ≤ a ∧ a < 4294967296
theorem sdiff_v (a b : Int) (ha : U32 a) (hb : U32 b) : seq_Diff.f a b = some (sd a b) := by
  unfold U32 at ha hb; unfold seq_Diff.f sd wrap64 wrap32; congr 1; omega
theorem rdiff_v (a b : Int) (ha : U32 a) (hb : U32 b) : patchbayref3_Diff.f a b = some (sd a b) := by
  unfold U32 at ha hb
  unfold patchbayref3_Diff.f
  have e : wrap64 (wrap64 a - wrap64 b) = a - b := by unfold wrap64; omega
  rw [e, round_v _ (by omega)]
  simp only [Option.bind_some, ge_iff_le]
  unfold sd wrap64
  split <;> (congr 1; omega)
/-! The data of the reference: a byte where one is there, -1 elsewhere. -/
def mk : List Int → List Bool → List Int
  | d :: da, t :: th => (if t = true then d else -1) :: mk da th
  | _, _ => []
theorem mk_len : ∀ (da : List Int) (th : List Bool), da.length = th.length → (mk da th).length = th.length
  | [], [], _ => rfl
  | d :: da, t :: th, h => by
    have h' : da.length = th.length := by simpa using h
    simp only [mk, List.length_cons, mk_len da th h']
theorem mk_at : ∀ (da : List Int) (th : List Bool) (i : Nat), da.length = th.length → i < th.length → (mk da th).getD i 0 = if th.getD i false = true then da.getD i 0 else -1
  | [], th, i, h, hi => by rw [← h] at hi; simp at hi
  | _ :: _, [], i, h, hi => by simp at hi
  | d :: da, t :: th, 0, _, _ => by simp [mk]
  | d :: da, t :: th, i + 1, h, hi => by
    have h' : da.length = th.length := by simpa using h
    have hi' : i < th.length := by simpa using hi
    simpa [mk] using mk_at da th i h' hi'
theorem mk_app : ∀ (da : List Int) (th : List Bool) (da2 : List Int) (th2 : List Bool), da.length = th.length → mk (da ++ da2) (th ++ th2) = mk da th ++ mk da2 th2
  | [], [], _, _, _ => rfl
  | [], _ :: _, _, _, h => by simp at h
  | _ :: _, [], _, _, h => by simp at h
  | d :: da, t :: th, da2, th2, h => by
    have h' : da.length = th.length := by simpa using h
    simp only [List.cons_append, mk, mk_app da th da2 th2 h']
theorem mk_rep : ∀ n : Nat, mk (List.replicate n 0) (List.replicate n false) = List.replicate n (-1)
  | 0 => rfl
  | n + 1 => by simp [List.replicate_succ, mk, mk_rep n]
theorem mk_ext (da : List Int) (th : List Bool) (n : Nat) (h : da.length = th.length) : mk (ext da 0 n) (ext th false n) = ext (mk da th) (-1) n := by
  unfold ext
  rw [mk_app _ _ _ _ h, mk_len da th h, h, mk_rep]
theorem mk_set : ∀ (da : List Int) (th : List Bool) (i : Nat) (c : Int), da.length = th.length → mk (da.set i c) (th.set i true) = (mk da th).set i c
  | [], [], _, _, _ => rfl
  | d :: da, t :: th, 0, c, h => by simp [mk]
  | d :: da, t :: th, i + 1, c, h => by
    have h' : da.length = th.length := by simpa using h
    simp only [List.set_cons_succ, mk, mk_set da th i c h']
theorem mk_lead : ∀ (da : List Int) (th : List Bool), da.length = th.length → mk da th = da.take (lead th) ++ mk (da.drop (lead th)) (th.drop (lead th))
  | [], [], _ => rfl
  | d :: da, true :: th, h => by
    have h' : da.length = th.length := by simpa using h
    simp only [lead, List.take_succ_cons, List.drop_succ_cons, List.cons_append, mk, if_true]
    rw [← mk_lead da th h']
  | d :: da, false :: th, h => by simp [lead]
theorem lead_lead : ∀ th : List Bool, lead (th.drop (lead th)) = 0
  | [] => rfl
  | true :: th => by simp only [lead, List.drop_succ_cons]; exact lead_lead th
  | false :: th => rfl
def Byt (l : List Int) : Prop := ∀ x ∈ l, 0 ≤ x ∧ x < 256
theorem byt_ext {l : List Int} (h : Byt l) (n : Nat) : Byt (ext l 0 n) := by
  intro x hx
  unfold ext at hx
  rcases List.mem_append.1 hx with hx | hx
  · exact h x hx
  · have := (List.mem_replicate.1 hx).2; omega
theorem byt_getD {l : List Int} (h : Byt l) (i : Nat) : 0 ≤ l.getD i 0 ∧ l.getD i 0 < 256 := by
  by_cases hi : i < l.length
  · rw [List.getD_eq_getElem?_getD, List.getElem?_eq_getElem hi]; exact h _ (List.getElem_mem hi)
  · rw [List.getD_eq_getElem?_getD, List.getElem?_eq_none (by omega)]; simp
theorem rd_pre (p m : List Int) (i : Nat) (h : i < p.length) : rd (p ++ m) i = p[i] := by unfold rd; rw [Int.toNat_natCast, List.getD_eq_getElem?_getD, List.getElem?_append_left h]; simp [h]
theorem rd_mk (p m : List Int) (i : Nat) : rd (p ++ m) ((p.length + i : Nat) : Int) = m.getD i 0 := by
  unfold rd
  rw [Int.toNat_natCast, List.getD_eq_getElem?_getD, List.getElem?_append_right (by omega), Nat.add_sub_cancel_left, List.getD_eq_getElem?_getD]
/-- No byte stands first behind the gap. -/
def Gap (m : List Int) : Prop := m = [] ∨ m.getD 0 0 < 0
theorem gap_mk : ∀ (da : List Int) (th : List Bool), da.length = th.length → lead th = 0 → Gap (mk da th)
  | [], [], _, _ => .inl rfl
  | d :: da, true :: th, _, h => by simp [lead] at h
  | d :: da, false :: th, _, _ => .inr (by simp [mk])
theorem got_go (f room R : Int) (p m : List Int) (hp : Byt p) (hm : Gap m) (hl : p.length ≤ 1000000) : ∀ (n k i : Nat), i + n = p.length → n < k → patchbayref3_Recv_Got.l0 k i f room (p ++ m) R = some (p.length : Int)
  | 0, k + 1, i, h, _ => by
    rw [patchbayref3_Recv_Got.l0]
    obtain rfl : i = p.length := by omega
    rcases hm with rfl | hm
    · rw [List.append_nil, if_neg (by omega)]
    · by_cases h0 : ((p.length : Nat) : Int) < ((p ++ m).length : Int)
      · have e := rd_mk p m 0
        rw [Nat.add_zero] at e
        rw [if_pos h0, if_pos (by omega), e, if_neg (by omega)]
      · rw [if_neg h0]
  | n + 1, k + 1, i, h, hk => by
    rw [patchbayref3_Recv_Got.l0]
    have hi : i < p.length := by omega
    rw [if_pos (by rw [List.length_append]; omega), if_pos (by omega), rd_pre p m i hi, if_pos (hp _ (List.getElem_mem hi)).1, w64 (by omega)]
    exact got_go f room R p m hp hm hl n k (i + 1) (by omega) (by omega)
theorem got_v (k : Nat) (f room R : Int) (p m : List Int) (hp : Byt p) (hm : Gap m) (hl : p.length ≤ 1000000) (hk : p.length < k) : patchbayref3_Recv_Got.f k f room (p ++ m) R = some (p.length : Int) := got_go f room R p m hp hm hl p.length k 0 (by omega) hk
theorem next_v (k : Nat) (f room R : Int) (p m : List Int) (hp : Byt p) (hm : Gap m) (hl : p.length ≤ 1000000) (hk : p.length < k) (hf : U32 f) : patchbayref3_Recv_Next.f k f room (p ++ m) R = some ((f + (p.length : Int)) % 4294967296) := by
  unfold U32 at hf
  unfold patchbayref3_Recv_Next.f
  rw [got_v k f room R p m hp hm hl hk, Option.bind_some, w64 (n := f) (by omega), w64 (by omega), round_v _ (by omega), Option.bind_some, Int.emod_emod]
theorem window_v (k : Nat) (f room R : Int) (p m : List Int) (hp : Byt p) (hm : Gap m) (hl : p.length ≤ 1000000) (hk : p.length < k) (hr : 0 ≤ room ∧ room ≤ 65535) (hR : 0 ≤ R ∧ R ≤ p.length) : patchbayref3_Recv_Window.f k f room (p ++ m) R = some (room - ((p.length : Int) - R)) := by
  unfold patchbayref3_Recv_Window.f
  rw [got_v k f room R p m hp hm hl hk, Option.bind_some, w64 (n := (p.length : Int) - R) (by omega), w64 (by omega)]
theorem in_ext (s : ByteArray) (b n0 i at_ f room R : Int) (D : List Int) (f2 room2 R2 : Int) : ∀ (n k : Nat) (M : List Int), (M.length : Int) + n = at_ + 1 → at_ ≤ 1000000 → n < k → patchbayref3_Recv_In.l1 k s b n0 i at_ f room D R f2 room2 M R2 = patchbayref3_Recv_In.l1 (k - n) s b n0 i at_ f room D R f2 room2 (M ++ List.replicate n (-1)) R2
  | 0, k, M, _, _, _ => by rw [List.replicate_zero, List.append_nil, Nat.sub_zero]
  | n + 1, k + 1, M, h, h2, hk => by
    rw [patchbayref3_Recv_In.l1, if_pos (by omega), if_pos (by omega), in_ext s b n0 i at_ f room R D f2 room2 R2 n k (M ++ [-1]) (by rw [List.length_append, List.length_singleton]; omega) h2 (by omega), show k + 1 - (n + 1) = k - n from by omega, List.append_assoc, List.replicate_succ]
    rfl
theorem bt_w (s : ByteArray) (i : Int) : wrap64 (bt s i) = bt s i := by
  have : 0 ≤ bt s i ∧ bt s i < 256 := by
    unfold bt
    split
    · have := (s[i.toNat]).toNat_lt; omega
    · omega
  exact w64 (by omega)
theorem ext_app (p : List Int) (l : List Int) (z : Int) (n : Nat) : ext (p ++ l) z (p.length + n) = p ++ ext l z n := by
  unfold ext
  rw [List.append_assoc, List.length_append, Nat.add_sub_add_left]
/-- A store of one byte, at any place that is in the window. -/
theorem in_step (s : ByteArray) (f room : Int) (D : List Int) (R : Int) (p da : List Int) (th : List Bool) (G a i n0 k : Nat) (b : Int) (hl : da.length = th.length) (hd : Byt da) (hG : p.length = G) (hs : p.length + a ≤ 1000000) (hi : i < s.size) (hi2 : s.size ≤ 4096) (hn0 : n0 ≤ 4096) (hk : a + 1 - da.length + 1 < k) :
    patchbayref3_Recv_In.l1 k s b n0 i ((G + a : Nat) : Int) f room D R f room (p ++ mk da th) R =
      if (ext th false (a + 1)).getD a false = true then patchbayref3_Recv_In.l0 (k - (a + 1 - da.length) - 1) s b n0 ((i + 1 : Nat) : Int) f room D R f room (p ++ mk (ext da 0 (a + 1)) (ext th false (a + 1))) R
      else patchbayref3_Recv_In.l0 (k - (a + 1 - da.length) - 1) s b ((n0 + 1 : Nat) : Int) ((i + 1 : Nat) : Int) f room D R f room (p ++ mk ((ext da 0 (a + 1)).set a (bt s i)) ((ext th false (a + 1)).set a true)) R := by
  have hml := mk_len da th hl
  have e1 : p ++ mk da th ++ List.replicate (a + 1 - da.length) (-1) = p ++ mk (ext da 0 (a + 1)) (ext th false (a + 1)) := by
    rw [mk_ext da th _ hl]; unfold ext; rw [List.append_assoc, hml, hl]
  have hdl : (ext da 0 (a + 1)).length = (ext th false (a + 1)).length := by rw [ext_len, ext_len, hl]
  have hel : (mk (ext da 0 (a + 1)) (ext th false (a + 1))).length = max th.length (a + 1) := by rw [mk_len _ _ hdl, ext_len]
  have hal : a < (ext th false (a + 1)).length := by rw [ext_len]; omega
  have hstep : patchbayref3_Recv_In.l1 k s b n0 i ((G + a : Nat) : Int) f room D R f room (p ++ mk da th) R = patchbayref3_Recv_In.l1 (k - (a + 1 - da.length)) s b n0 i ((G + a : Nat) : Int) f room D R f room (p ++ mk (ext da 0 (a + 1)) (ext th false (a + 1))) R := by
    by_cases hle : da.length ≤ a
    · rw [in_ext s b n0 i _ f room R D f room R (a + 1 - da.length) k _ (by rw [List.length_append, hml]; omega) (by omega) (by omega), e1]
    · have h0 : a + 1 - da.length = 0 := by omega
      rw [h0] at e1 ⊢
      rw [List.replicate_zero, List.append_nil] at e1
      rw [e1, Nat.sub_zero]
  rw [hstep]
  obtain ⟨k', hk'⟩ : ∃ k', k - (a + 1 - da.length) = k' + 1 := ⟨k - (a + 1 - da.length) - 1, by omega⟩
  rw [hk', patchbayref3_Recv_In.l1, Nat.add_sub_cancel]
  have hlen : ((p ++ mk (ext da 0 (a + 1)) (ext th false (a + 1))).length : Int) = p.length + max th.length (a + 1) := by rw [List.length_append, hel]; omega
  rw [hlen, if_neg (by omega), if_pos (by omega), if_pos (by omega), ← hG, rd_mk, mk_at _ _ a hdl hal]
  by_cases hb : (ext th false (a + 1)).getD a false = true
  · have hby : ¬ (ext da 0 (a + 1)).getD a 0 < 0 := by have := byt_getD (byt_ext hd (a + 1)) a; omega
    rw [if_pos hb, if_neg hby, if_pos hb, w64 (by omega)]
    rfl
  · rw [if_neg hb, if_pos (by omega), if_neg hb, if_pos (by omega), if_pos (by omega), w64 (n := (n0 : Int) + 1) (by omega), w64 (n := (i : Int) + 1) (by omega), bt_w]
    have e2 : (p ++ mk (ext da 0 (a + 1)) (ext th false (a + 1))).set (((p.length + a : Nat) : Int)).toNat (bt s i) = p ++ mk ((ext da 0 (a + 1)).set a (bt s i)) ((ext th false (a + 1)).set a true) := by
      rw [Int.toNat_natCast, List.set_append_right _ _ (by omega), Nat.add_sub_cancel_left, mk_set _ _ _ _ hdl]
    rw [e2]
    rfl
theorem bt_b (s : ByteArray) (i : Int) : 0 ≤ bt s i ∧ bt s i < 256 := by
  unfold bt
  split
  · have := (s[i.toNat]).toNat_lt; omega
  · omega
theorem byt_set {l : List Int} (h : Byt l) (a : Nat) (c : Int) (hc : 0 ≤ c ∧ c < 256) : Byt (l.set a c) := by
  intro x hx
  rcases List.mem_or_eq_of_mem_set hx with hx | rfl
  · exact h x hx
  · exact hc
theorem inN_more (off win : Int) (s : ByteArray) (da : List Int) (th : List Bool) (hd : Byt da) : ∀ i, Byt (inN off win s (da, th, 0) i).1 ∧ (inN off win s (da, th, 0) i).2.2 ≤ i
  | 0 => ⟨hd, Nat.le_refl _⟩
  | i + 1 => by
    have ih := inN_more off win s da th hd i
    rw [inN]
    generalize inN off win s (da, th, 0) i = st at ih
    unfold inS
    split
    · exact ⟨ih.1, by omega⟩
    · split
      · exact ⟨byt_ext ih.1 _, by show st.2.2 ≤ i + 1; omega⟩
      · exact ⟨byt_set (byt_ext ih.1 _) _ _ (bt_b s _), by show st.2.2 + 1 ≤ i + 1; omega⟩
theorem in_go (s : ByteArray) (f room R off win : Int) (p da : List Int) (th : List Bool) (hl : da.length = th.length) (hd : Byt da) (hp : Byt p) (hg : Gap (mk da th)) (h1 : p.length ≤ 100000) (h2 : da.length ≤ 100000) (hr : 0 ≤ room ∧ room ≤ 65535) (hR : 0 ≤ R ∧ R ≤ p.length) (hw : win = room - ((p.length : Int) - R)) (hs : s.size ≤ 4096) (ho : -100000000 ≤ off ∧ off ≤ 100000000) :
    ∀ (d i k : Nat), i + d = s.size → 4 * d + 400000 ≤ k + (inN off win s (da, th, 0) i).1.length →
      patchbayref3_Recv_In.l0 k s ((p.length : Int) + off) (((inN off win s (da, th, 0) i).2.2 : Nat) : Int) i f room (p ++ mk da th) R f room (p ++ mk (inN off win s (da, th, 0) i).1 (inN off win s (da, th, 0) i).2.1) R =
        some (f, room, p ++ mk (inN off win s (da, th, 0) s.size).1 (inN off win s (da, th, 0) s.size).2.1, R, (((inN off win s (da, th, 0) s.size).2.2 : Nat) : Int)) := by
  intro d
  induction d with
  | zero =>
    intro i k hi hk
    have hlen := (inN_len off win s (da, th, 0) hl 100000 h2 (by omega) i).2
    obtain ⟨k, rfl⟩ : ∃ m, k = m + 1 := ⟨k - 1, by omega⟩
    obtain rfl : i = s.size := by omega
    rw [patchbayref3_Recv_In.l0, if_neg (by omega)]
  | succ d ih =>
    intro i k hi hk
    have hlen := inN_len off win s (da, th, 0) hl 100000 h2 (by omega) i
    have hmore := inN_more off win s da th hd i
    have ihi := fun k => ih (i + 1) k (by omega)
    have hsucc : inN off win s (da, th, 0) (i + 1) = inS off win (bt s i) i (inN off win s (da, th, 0) i) := rfl
    rw [hsucc] at ihi
    clear ih hsucc
    generalize inN off win s (da, th, 0) i = st at *
    generalize inN off win s (da, th, 0) s.size = fn at *
    obtain ⟨k, rfl⟩ : ∃ m, k = m + 2 := ⟨k - 2, by omega⟩
    rw [patchbayref3_Recv_In.l0, if_pos (by omega), got_v _ f room R p _ hp hg (by omega) (by omega), Option.bind_some, w64 (n := (p.length : Int) + off + i) (by omega)]
    by_cases hA : (p.length : Int) + off + i < p.length
    · rw [if_pos hA, patchbayref3_Recv_In.j1, if_pos rfl, w64 (n := (i : Int) + 1) (by omega)]
      have e : inS off win (bt s i) i st = st := by unfold inS; rw [if_pos (.inl (by omega))]
      rw [e] at ihi
      exact ihi k (by omega)
    · rw [if_neg hA, Option.bind_some, window_v _ f room R p _ hp hg (by omega) (by omega) hr hR, Option.bind_some, patchbayref3_Recv_In.j1, w64 (n := (p.length : Int) + (room - ((p.length : Int) - R))) (by omega)]
      by_cases hB : off + i ≥ win
      · rw [if_pos (decide_eq_true (by omega)), w64 (n := (i : Int) + 1) (by omega)]
        have e : inS off win (bt s i) i st = st := by unfold inS; rw [if_pos (.inr hB)]
        rw [e] at ihi
        exact ihi k (by omega)
      · rw [if_neg (by rw [decide_eq_true_eq]; omega)]
        obtain ⟨a, ha⟩ : ∃ a : Nat, off + i = a := ⟨(off + i).toNat, by omega⟩
        have ha2 : (off + i).toNat = a := by omega
        have e : inS off win (bt s i) i st = if (ext st.2.1 false (a + 1)).getD a false = true then (ext st.1 0 (a + 1), ext st.2.1 false (a + 1), st.2.2) else ((ext st.1 0 (a + 1)).set a (bt s i), (ext st.2.1 false (a + 1)).set a true, st.2.2 + 1) := by
          unfold inS; rw [if_neg (by omega), ha2]
        rw [e] at ihi
        rw [show (p.length : Int) + off + i = ((p.length + a : Nat) : Int) from by omega, in_step s f room (p ++ mk da th) R p st.1 st.2.1 p.length a i st.2.2 k ((p.length : Int) + off) hlen.1 hmore.1 rfl (by omega) (by omega) hs (by omega) (by omega)]
        have hel : (ext st.1 0 (a + 1)).length = max st.1.length (a + 1) := ext_len _ _ _
        by_cases hC : (ext st.2.1 false (a + 1)).getD a false = true
        · rw [if_pos hC]
          rw [if_pos hC] at ihi
          exact ihi _ (by show _ ≤ _ + (ext st.1 0 (a + 1)).length; rw [hel]; omega)
        · rw [if_neg hC]
          rw [if_neg hC] at ihi
          exact ihi _ (by show _ ≤ _ + ((ext st.1 0 (a + 1)).set a (bt s i)).length; rw [List.length_set, hel]; omega)
theorem in_v (k : Nat) (s : ByteArray) (f room R off win frm : Int) (p da : List Int) (th : List Bool) (hl : da.length = th.length) (hd : Byt da) (hp : Byt p) (hg : Gap (mk da th)) (h1 : p.length ≤ 100000) (h2 : da.length ≤ 100000) (hr : 0 ≤ room ∧ room ≤ 65535) (hR : 0 ≤ R ∧ R ≤ p.length) (hw : win = room - ((p.length : Int) - R)) (hs : s.size ≤ 4096) (hf : U32 f) (hfrm : U32 frm) (hoff : sd frm ((f + p.length) % 4294967296) = off) (ho : -100000000 ≤ off ∧ off ≤ 100000000) (hk : 500000 ≤ k) :
    patchbayref3_Recv_In.f k f room (p ++ mk da th) R frm s = some (f, room, p ++ mk (inN off win s (da, th, 0) s.size).1 (inN off win s (da, th, 0) s.size).2.1, R, (((inN off win s (da, th, 0) s.size).2.2 : Nat) : Int)) := by
  unfold patchbayref3_Recv_In.f
  have hml := mk_len da th hl
  rw [if_pos (by rw [List.length_nil, List.length_append, hml]; omega), got_v _ f room R p _ hp hg (by omega) (by omega), Option.bind_some, next_v _ f room R p _ hp hg (by omega) (by omega) hf, Option.bind_some, rdiff_v frm _ hfrm (by unfold U32; omega), Option.bind_some, hoff, w64 (by omega), List.nil_append]
  exact in_go s f room R off win p da th hl hd hp hg h1 h2 hr hR hw hs ho s.size 0 k (by omega) (by show 4 * s.size + 400000 ≤ k + da.length; omega)
end Go.Proofs.Ytcllcjflgeiehaa.PRecvPlays
