/- Proved: what the reference's Take, Blocks and SameBlocks return, told by the rows of the program's buffer. No condition. -/
import Derived.Test.YtcllcjflgeiehaaRecvPlain
namespace Go.Proofs.Ytcllcjflgeiehaa.PRecvPlays
open Go.RowKit Go.Proofs.YtcllcjflgeiehaaW.PrintWords Go.Proofs.YtcllcjflgeiehaaW.PrintLast Go.Proofs.YtcllcjflgeiehaaW.PrintMore
set_option linter.unusedVariables false
set_option linter.unusedSimpArgs false
theorem str_nil (x : ByteArray) : x ++ strOfNums [] = x := by
  apply ByteArray.ext
  simp [strOfNums]
theorem str_app (a b : List Int) : strOfNums (a ++ b) = strOfNums a ++ strOfNums b := by
  apply ByteArray.ext
  simp [strOfNums]
theorem take_go (f room mo : Int) (p m : List Int) (hp : Byt p) (hg : Gap m) (h1 : p.length ≤ 100000) : ∀ (n k R : Nat) (x : ByteArray), R + n ≤ p.length → (((x.size + n : Nat) : Int) = mo ∨ (R + n = p.length ∧ ((x.size + n : Nat) : Int) ≤ mo)) → x.size + n ≤ 1000000 → n + p.length + 1 < k →
    patchbayref3_Recv_Take.l0 k mo x f room (p ++ m) R = some (f, room, p ++ m, ((R + n : Nat) : Int), x ++ strOfNums ((p.drop R).take n))
  | 0, k + 1, R, x, hR, hn, hx, hk => by
    rw [patchbayref3_Recv_Take.l0, got_v _ f room _ p _ hp hg (by omega) (by omega), Option.bind_some, List.take_zero, str_nil, Nat.add_zero]
    by_cases hA : (R : Int) < p.length
    · rw [if_pos hA, if_neg (by omega)]
    · rw [if_neg hA]
  | n + 1, k + 1, R, x, hR, hn, hx, hk => by
    have hRl : R < p.length := by omega
    have hb := hp _ (List.getElem_mem hRl)
    have hsz : (strOfNums [p[R]]).size = 1 := strOfNums_size _
    rw [patchbayref3_Recv_Take.l0, got_v _ f room _ p _ hp hg (by omega) (by omega), Option.bind_some, if_pos (by omega), if_pos (by omega), if_pos (by omega), if_pos (by rw [List.length_append]; omega), Option.bind_some, rd_pre p m R hRl, Int.emod_eq_of_lt hb.1 hb.2, if_pos (by rw [hsz]; omega), w64 (by omega)]
    have hs2 : (x ++ strOfNums [p[R]]).size = x.size + 1 := by rw [ByteArray.size_append, hsz]
    have := take_go f room mo p m hp hg h1 n k (R + 1) (x ++ strOfNums [p[R]]) (by omega) (by rw [hs2]; omega) (by rw [hs2]; omega) (by omega)
    rw [show ((R : Int) + 1) = ((R + 1 : Nat) : Int) from by omega, this, ByteArray.append_assoc, ← str_app, show R + 1 + n = R + (n + 1) from by omega, List.drop_eq_getElem_cons hRl, List.take_succ_cons]
    rfl
theorem take_v (k : Nat) (f room mo : Int) (p m : List Int) (R n : Nat) (hp : Byt p) (hg : Gap m) (h1 : p.length ≤ 100000) (hR : R ≤ p.length) (hmn : mo = (n : Int) ∧ n ≤ p.length - R ∨ (((p.length - R : Nat) : Int) < mo ∧ n = p.length - R)) (hk : 500000 ≤ k) :
    patchbayref3_Recv_Take.f k f room (p ++ m) R mo = some (f, room, p ++ m, ((R + n : Nat) : Int), strOfNums ((p.drop R).take n)) := by
  unfold patchbayref3_Recv_Take.f
  have h0 : (⟨#[]⟩ : ByteArray).size = 0 := rfl
  rw [take_go f room mo p m hp hg h1 n k R ⟨#[]⟩ (by omega) (by rw [h0]; omega) (by rw [h0]; omega) (by omega)]
  have e : ∀ y : ByteArray, (⟨#[]⟩ : ByteArray) ++ y = y := fun y => by apply ByteArray.ext; simp
  rw [e]
theorem same_l (l : List S74) (hl : l.length ≤ 1000000) (d : Nat) : ∀ (k i : Nat), l.length - i = d → i ≤ l.length → d < k → patchbayref3_SameBlocks.l0 k l l i = some true := by
  induction d with
  | zero =>
    intro k i hd hi hk
    obtain ⟨k, rfl⟩ : ∃ m, k = m + 1 := ⟨k - 1, by omega⟩
    simp only [patchbayref3_SameBlocks.l0]
    rw [if_neg (by omega)]
  | succ d ih =>
    intro k i hd hi hk
    obtain ⟨k, rfl⟩ : ∃ m, k = m + 1 := ⟨k - 1, by omega⟩
    simp only [patchbayref3_SameBlocks.l0]
    rw [if_pos (by omega), if_pos (by omega), if_pos (by omega), if_neg (by simp), show wrap64 ((i : Int) + 1) = ((i + 1 : Nat) : Int) from by unfold wrap64; omega]
    exact ih k (i + 1) (by omega) (by omega) (by omega)
theorem same_v (l : List S74) (hl : l.length ≤ 1000000) (k : Nat) (hk : l.length < k) : patchbayref3_SameBlocks.f k l l = some true := by
  unfold patchbayref3_SameBlocks.f
  have := same_l l hl l.length k 0 (by omega) (by omega) hk
  have h0 : patchbayref3_SameBlocks.l0 k l l 0 = some true := by simpa using this
  rw [if_pos rfl]
  exact h0
/-! Blocks. -/
theorem rd_on (p da : List Int) (th : List Bool) (hl : da.length = th.length) (hd : Byt da) (i : Nat) (hi : i < th.length) : (0 ≤ rd (p ++ mk da th) ((p.length : Int) + i)) ↔ th.getD i false = true := by
  rw [show (p.length : Int) + i = ((p.length + i : Nat) : Int) from by omega, rd_mk, mk_at da th i hl hi]
  have := byt_getD hd i
  by_cases h : th.getD i false = true
  · rw [if_pos h]; exact ⟨fun _ => h, fun _ => this.1⟩
  · rw [if_neg h]; exact ⟨fun hc => absurd hc (by omega), fun hc => absurd hc h⟩
theorem lead_in (th : List Bool) : ∀ (j : Nat), j < lead th → th.getD j false = true := by
  induction th with
  | nil => intro j h; simp [lead] at h
  | cons t r ih =>
    intro j h
    cases t with
    | false => simp [lead] at h
    | true =>
      cases j with
      | zero => rfl
      | succ j => simp only [lead] at h; simpa using ih j (by omega)
theorem lead_off (th : List Bool) : th.getD (lead th) false = false := by
  induction th with
  | nil => rfl
  | cons t r ih =>
    cases t with
    | false => rfl
    | true => simpa [lead] using ih
theorem getD_drop (th : List Bool) (i j : Nat) : (th.drop i).getD j false = th.getD (i + j) false := by
  rw [List.getD_eq_getElem?_getD, List.getD_eq_getElem?_getD, List.getElem?_drop]
theorem blk_end (f room R : Int) (p da : List Int) (th : List Bool) (out : List S74) (hl : da.length = th.length) (hd : Byt da) (h1 : p.length ≤ 100000) (h2 : th.length ≤ 100000) (i : Nat) (hf : U32 f) (ho : out.length ≤ 1000000) (hi : i ≤ 100000) : ∀ (d k j : Nat), j ≤ th.length → lead (th.drop j) = d → d + 1 < k →
    patchbayref3_Recv_Blocks.l1 k out ((p.length : Int) + i) ((p.length : Int) + j) f room (p ++ mk da th) R = patchbayref3_Recv_Blocks.l0 (k - d - 1) (out ++ [⟨(((f + p.length) % 4294967296) + (i : Int)) % 4294967296, (((f + p.length) % 4294967296) + ((j + d : Nat) : Int)) % 4294967296⟩]) ((p.length : Int) + ((i + 1 : Nat) : Int)) f room (p ++ mk da th) R
  | d, k + 1, j, hj, hd2, hk => by
    unfold U32 at hf
    have hlen : ((p ++ mk da th).length : Int) = (p.length : Int) + th.length := by rw [List.length_append, mk_len da th hl]; omega
    have key : d = 0 → patchbayref3_Recv_Blocks.l0 k (out ++ [(⟨(f + ((p.length : Int) + i)) % 4294967296 % 4294967296, (f + ((p.length : Int) + j)) % 4294967296 % 4294967296⟩ : S74)]) (wrap64 ((p.length : Int) + i + 1)) f room (p ++ mk da th) R = patchbayref3_Recv_Blocks.l0 (k + 1 - d - 1) (out ++ [⟨(((f + p.length) % 4294967296) + (i : Int)) % 4294967296, (((f + p.length) % 4294967296) + ((j + d : Nat) : Int)) % 4294967296⟩]) ((p.length : Int) + ((i + 1 : Nat) : Int)) f room (p ++ mk da th) R := by
      intro h0
      subst h0
      rw [w64 (by omega), show (p.length : Int) + i + 1 = (p.length : Int) + ((i + 1 : Nat) : Int) from by omega, show k + 1 - 0 - 1 = k from by omega,
        show (f + ((p.length : Int) + i)) % 4294967296 % 4294967296 = (((f + p.length) % 4294967296) + (i : Int)) % 4294967296 from by omega,
        show (f + ((p.length : Int) + j)) % 4294967296 % 4294967296 = (((f + p.length) % 4294967296) + ((j + 0 : Nat) : Int)) % 4294967296 from by omega]
    rw [patchbayref3_Recv_Blocks.l1, hlen]
    by_cases hA : j < th.length
    · rw [if_pos (by omega), if_pos (by omega)]
      rw [lead_drop th j hA] at hd2
      have hon := rd_on p da th hl hd j hA
      by_cases hB : th.getD j false = true
      · rw [if_pos hB] at hd2
        obtain ⟨d, rfl⟩ : ∃ e, d = e + 1 := ⟨d - 1, by omega⟩
        rw [if_pos (hon.2 hB), w64 (by omega), show (p.length : Int) + j + 1 = (p.length : Int) + ((j + 1 : Nat) : Int) from by omega,
          blk_end f room R p da th out hl hd h1 h2 i hf ho hi d k (j + 1) (by omega) (by omega) (by omega), show k + 1 - (d + 1) - 1 = k - d - 1 from by omega, show j + 1 + d = j + (d + 1) from by omega]
      · rw [if_neg hB] at hd2
        rw [if_neg (fun hc => hB (hon.1 hc)), w64 (n := f) (by omega), w64 (n := f + ((p.length : Int) + i)) (by omega), w64 (n := f + ((p.length : Int) + j)) (by omega), round_v _ (by omega), Option.bind_some, round_v _ (by omega), Option.bind_some, if_pos (by omega)]
        exact key hd2.symm
    · have h0 : d = 0 := by rw [← hd2]; exact lead_end th j (by omega)
      rw [if_neg (by omega), w64 (n := f) (by omega), w64 (n := f + ((p.length : Int) + i)) (by omega), w64 (n := f + ((p.length : Int) + j)) (by omega), round_v _ (by omega), Option.bind_some, round_v _ (by omega), Option.bind_some, if_pos (by omega)]
      exact key h0
/-- Behind a byte that is there, bytes that are there are passed. -/
theorem blk_skip (f room R : Int) (p da : List Int) (th : List Bool) (out : List S74) (hl : da.length = th.length) (hd : Byt da) (h1 : p.length ≤ 100000) (h2 : th.length ≤ 100000) : ∀ (d k j : Nat), j + 1 + d ≤ th.length → (∀ q, j ≤ q → q < j + 1 + d → th.getD q false = true) → 2 * d < k →
    patchbayref3_Recv_Blocks.l0 k out ((p.length : Int) + ((j + 1 : Nat) : Int)) f room (p ++ mk da th) R = patchbayref3_Recv_Blocks.l0 (k - 2 * d) out ((p.length : Int) + ((j + 1 + d : Nat) : Int)) f room (p ++ mk da th) R
  | 0, k, j, _, _, _ => rfl
  | d + 1, k + 2, j, hj, hq, hk => by
    have hlen : ((p ++ mk da th).length : Int) = (p.length : Int) + th.length := by rw [List.length_append, mk_len da th hl]; omega
    have h3 := (rd_on p da th hl hd (j + 1) (by omega)).2 (hq _ (by omega) (by omega))
    have h4 := (rd_on p da th hl hd j (by omega)).2 (hq _ (by omega) (by omega))
    rw [patchbayref3_Recv_Blocks.l0, hlen, if_pos (by omega), if_pos (by omega), if_neg (by omega), w64 (n := (p.length : Int) + ((j + 1 : Nat) : Int) - 1) (by omega), show (p.length : Int) + ((j + 1 : Nat) : Int) - 1 = (p.length : Int) + j from by omega, if_pos (by omega), if_pos (by omega), patchbayref3_Recv_Blocks.j1, if_pos (decide_eq_true h4), w64 (by omega),
      show (p.length : Int) + ((j + 1 : Nat) : Int) + 1 = (p.length : Int) + ((j + 1 + 1 : Nat) : Int) from by omega, blk_skip f room R p da th out hl hd h1 h2 d k (j + 1) (by omega) (fun q a b => hq q (by omega) (by omega)) (by omega), show k + 2 - 2 * (d + 1) = k - 2 * d from by omega, show j + 1 + 1 + d = j + 1 + (d + 1) from by omega]
theorem pbl_past (nx : Int) (th : List Bool) (n i : Nat) (h : th.length ≤ i) : pbl nx th n i = [] := by
  cases n with
  | zero => rfl
  | succ n => rw [pbl, if_neg (by omega)]
/-- A place without a byte is passed. -/
theorem blk_off (f room R : Int) (p da : List Int) (th : List Bool) (out : List S74) (hl : da.length = th.length) (hd : Byt da) (h1 : p.length ≤ 100000) (h2 : th.length ≤ 100000) (k i : Nat) (hi : i < th.length) (hb : th.getD i false = false) :
    patchbayref3_Recv_Blocks.l0 (k + 2) out ((p.length : Int) + i) f room (p ++ mk da th) R = patchbayref3_Recv_Blocks.l0 k out ((p.length : Int) + ((i + 1 : Nat) : Int)) f room (p ++ mk da th) R := by
  have hlen : ((p ++ mk da th).length : Int) = (p.length : Int) + th.length := by rw [List.length_append, mk_len da th hl]; omega
  have h3 := rd_on p da th hl hd i hi
  rw [hb] at h3
  rw [patchbayref3_Recv_Blocks.l0, hlen, if_pos (by omega), if_pos (by omega), if_pos (by have := mt h3.1 (by decide); omega), patchbayref3_Recv_Blocks.j1, if_pos rfl, w64 (by omega), show (p.length : Int) + i + 1 = (p.length : Int) + ((i + 1 : Nat) : Int) from by omega]
theorem blk_past (f room R : Int) (p da : List Int) (th : List Bool) (out : List S74) (hl : da.length = th.length) (k i : Nat) (hi : th.length ≤ i) :
    patchbayref3_Recv_Blocks.l0 (k + 1) out ((p.length : Int) + i) f room (p ++ mk da th) R = some out := by
  have hlen : ((p ++ mk da th).length : Int) = (p.length : Int) + th.length := by rw [List.length_append, mk_len da th hl]; omega
  rw [patchbayref3_Recv_Blocks.l0, hlen, if_neg (by omega)]
theorem blk_go (f room R : Int) (p da : List Int) (th : List Bool) (hl : da.length = th.length) (hd : Byt da) (h1 : p.length ≤ 100000) (h2 : th.length ≤ 100000) (hf : U32 f) (h0 : lead th = 0) : ∀ (n k i : Nat) (out : List S74), th.length < i + n → 4 * th.length + 20 < k + 4 * i → i ≤ th.length + 1 → (i = 0 ∨ th.getD (i - 1) false = false) → out.length ≤ i →
    patchbayref3_Recv_Blocks.l0 k out ((p.length : Int) + i) f room (p ++ mk da th) R = some (out ++ pbl ((f + p.length) % 4294967296) th n i)
  | 0, k, i, out, h, hk, hi, hq, ho => by
    obtain ⟨k, rfl⟩ : ∃ m, k = m + 1 := ⟨k - 1, by omega⟩
    rw [blk_past f room R p da th out hl k i (by omega), pbl, List.append_nil]
  | n + 1, k, i, out, h, hk, hi, hq, ho => by
    obtain ⟨k, rfl⟩ : ∃ m, k = m + 2 := ⟨k - 2, by omega⟩
    by_cases hA : i < th.length
    · by_cases hB : th.getD i false = true
      · have hlen : ((p ++ mk da th).length : Int) = (p.length : Int) + th.length := by rw [List.length_append, mk_len da th hl]; omega
        have hi1 : 1 ≤ i := by
          rcases Nat.eq_zero_or_pos i with rfl | hc
          · have := lead_off th; rw [h0, hB] at this; cases this
          · exact hc
        have hq' : th.getD (i - 1) false = false := by rcases hq with rfl | hq
                                                       · omega
                                                       · exact hq
        have h3 := (rd_on p da th hl hd i hA).2 hB
        have h4 := rd_on p da th hl hd (i - 1) (by omega)
        rw [hq'] at h4
        have h5 := mt h4.1 (by decide)
        obtain ⟨d, hdl⟩ : ∃ d, lead (th.drop i) = d + 1 := ⟨lead (th.drop (i + 1)), by rw [lead_drop th i hA, if_pos hB]⟩
        have hin : ∀ q, i ≤ q → q < i + 1 + d → th.getD q false = true := fun q a b => by
          have := lead_in (th.drop i) (q - i) (by omega)
          rwa [getD_drop, show i + (q - i) = q from by omega] at this
        have hoff : th.getD (i + 1 + d) false = false := by
          have := lead_off (th.drop i)
          rwa [hdl, getD_drop, show i + (d + 1) = i + 1 + d from by omega] at this
        have hle : i + 1 + d ≤ th.length := by have := lead_le (th.drop i); rw [List.length_drop] at this; omega
        rw [patchbayref3_Recv_Blocks.l0, hlen, if_pos (by omega), if_pos (by omega), if_neg (by omega), w64 (by omega), show (p.length : Int) + i - 1 = (p.length : Int) + ((i - 1 : Nat) : Int) from by omega, if_pos (by omega), if_pos (by omega), patchbayref3_Recv_Blocks.j1, if_neg (by rw [decide_eq_true_eq]; exact h5),
          blk_end f room R p da th out hl hd h1 h2 i hf (by omega) (by omega) (d + 1) k i (by omega) hdl (by omega),
          blk_skip f room R p da th _ hl hd h1 h2 d _ i hle hin (by omega), pbl, if_pos hA, if_pos hB, hdl]
        have hol : ∀ b : S74, (out ++ [b]).length ≤ i + 1 + d + 1 := fun b => by rw [List.length_append, List.length_singleton]; omega
        by_cases hC : i + 1 + d < th.length
        · obtain ⟨k', hk'⟩ : ∃ m, k - (d + 1) - 1 - 2 * d = m + 2 := ⟨k - (d + 1) - 1 - 2 * d - 2, by omega⟩
          rw [hk', blk_off f room R p da th _ hl hd h1 h2 k' (i + 1 + d) hC hoff, blk_go f room R p da th hl hd h1 h2 hf h0 n k' (i + 1 + d + 1) _ (by omega) (by omega) (by omega) (.inr hoff) (hol _), List.append_assoc, show i + (d + 1) + 1 = i + 1 + d + 1 from by omega]
          rfl
        · obtain ⟨k', hk'⟩ : ∃ m, k - (d + 1) - 1 - 2 * d = m + 1 := ⟨k - (d + 1) - 1 - 2 * d - 1, by omega⟩
          rw [hk', blk_past f room R p da th _ hl k' (i + 1 + d) (by omega), pbl_past _ th n (i + (d + 1) + 1) (by omega)]
      · have hB' : th.getD i false = false := by simpa using hB
        rw [blk_off f room R p da th out hl hd h1 h2 k i hA hB', blk_go f room R p da th hl hd h1 h2 hf h0 n k (i + 1) out (by omega) (by omega) (by omega) (.inr hB') (by omega), pbl, if_pos hA, if_neg hB]
    · rw [blk_past f room R p da th out hl (k + 1) i (by omega), pbl_past _ th (n + 1) i (by omega), List.append_nil]
theorem blocks_v (k : Nat) (f room R : Int) (p da : List Int) (th : List Bool) (hl : da.length = th.length) (hd : Byt da) (hp : Byt p) (h1 : p.length ≤ 100000) (h2 : th.length ≤ 100000) (hf : U32 f) (h0 : lead th = 0) (hk : 500000 ≤ k) :
    patchbayref3_Recv_Blocks.f k f room (p ++ mk da th) R = some (pbl ((f + p.length) % 4294967296) th (th.length + 1) 0) := by
  unfold patchbayref3_Recv_Blocks.f
  rw [got_v k f room R p _ hp (gap_mk da th hl h0) (by omega) (by omega), Option.bind_some]
  have := blk_go f room R p da th hl hd h1 h2 hf h0 (th.length + 1) k 0 [] (by omega) (by omega) (by omega) (.inl rfl) (Nat.le_refl _)
  rw [show (p.length : Int) + ((0 : Nat) : Int) = (p.length : Int) from by omega, List.nil_append] at this
  exact this
theorem pbl_len (nx : Int) (th : List Bool) : ∀ n i, (pbl nx th n i).length ≤ n
  | 0, _ => Nat.le_refl _
  | n + 1, i => by
    rw [pbl]
    split
    · split
      · rw [List.length_cons]; have := pbl_len nx th n (i + lead (th.drop i) + 1); omega
      · have := pbl_len nx th n (i + 1); omega
    · simp
end Go.Proofs.Ytcllcjflgeiehaa.PRecvPlays
