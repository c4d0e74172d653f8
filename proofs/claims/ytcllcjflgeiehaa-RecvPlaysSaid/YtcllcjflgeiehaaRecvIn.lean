/- Proved: what the method In does to a receive buffer: it stores the bytes of a string, as far as they are in the window and were not received before. -/
import Derived.Test.YtcllcjflgeiehaaRecvG
import Derived.BigRegion
namespace Go.Proofs.Ytcllcjflgeiehaa.PRecvPlays
open Go.RowKit Go.Proofs.YtcllcjflgeiehaaW.PrintWords Go.Proofs.YtcllcjflgeiehaaW.PrintLast Go.Proofs.YtcllcjflgeiehaaW.PrintMore
set_option linter.unusedVariables false
set_option linter.unusedSimpArgs false
def ext {α : Type} (l : List α) (z : α) (n : Nat) : List α := l ++ List.replicate (n - l.length) z
abbrev St := List Int × List Bool × Nat
def inS (off win c : Int) (i : Nat) (st : St) : St :=
  if off + i < 0 ∨ off + i ≥ win then st
  else if (ext st.2.1 false ((off + i).toNat + 1)).getD (off + i).toNat false = true then (ext st.1 0 ((off + i).toNat + 1), ext st.2.1 false ((off + i).toNat + 1), st.2.2)
  else ((ext st.1 0 ((off + i).toNat + 1)).set (off + i).toNat c, (ext st.2.1 false ((off + i).toNat + 1)).set (off + i).toNat true, st.2.2 + 1)
def inN (off win : Int) (s : ByteArray) (st : St) : Nat → St
  | 0 => st
  | i + 1 => inS off win (bt s i) i (inN off win s st i)
theorem ext_len {α : Type} (l : List α) (z : α) (n : Nat) : (ext l z n).length = max l.length n := by unfold ext; rw [List.length_append, List.length_replicate]; omega
theorem ext_id {α : Type} (l : List α) (z : α) (n : Nat) (h : n ≤ l.length) : ext l z n = l := by unfold ext; rw [show n - l.length = 0 from by omega]; simp
theorem ext_snoc {α : Type} (l : List α) (z : α) (n : Nat) (h : l.length < n) : ext (l ++ [z]) z n = ext l z n := by
  unfold ext
  rw [List.length_append, List.length_singleton, List.append_assoc, show n - l.length = (n - (l.length + 1)) + 1 from by omega, List.replicate_succ]
  rfl
theorem inS_len (off win c : Int) (i : Nat) (st : St) (h : st.1.length = st.2.1.length) (M : Nat) (hM : st.1.length ≤ M) (hw : win ≤ M) : (inS off win c i st).1.length = (inS off win c i st).2.1.length ∧ (inS off win c i st).1.length ≤ M := by
  unfold inS
  split
  · exact ⟨h, hM⟩
  · split
    · simp only [ext_len]; omega
    · simp only [List.length_set, ext_len]; omega
theorem inN_len (off win : Int) (s : ByteArray) (st : St) (h : st.1.length = st.2.1.length) (M : Nat) (hM : st.1.length ≤ M) (hw : win ≤ M) : ∀ i, (inN off win s st i).1.length = (inN off win s st i).2.1.length ∧ (inN off win s st i).1.length ≤ M
  | 0 => ⟨h, hM⟩
  | i + 1 => inS_len off win _ i _ (inN_len off win s st h M hM hw i).1 M (inN_len off win s st h M hM hw i).2 hw
/-- What holds while the buffer is made longer. -/
def GrowRel (w0 w : World) (g : Nat) (nx room : Int) (rd da : List Int) (th : List Bool) (at_ n : Nat) (wr : World) : Prop := ∃ (d : List Int) (t : List Bool), Buf w0.heap.size wr g nx room rd d t ∧ d.length = t.length ∧ d.length + n = max da.length (at_ + 1) ∧ ext d 0 (at_ + 1) = ext da 0 (at_ + 1) ∧ ext t false (at_ + 1) = ext th false (at_ + 1) ∧ Below w0.heap.size w0 wr ∧ Keep w wr
def recv_In.T11 : Bool × List (List Nat × List Nat) := (true, [([], []), ([], []), ([], []), ([2], [2]), ([3], [3]), ([4], [4]), ([], []), ([5, 6], [5, 6]), ([], []), ([8], [8]), ([9], [9]), ([10], [10]), ([], []), ([11, 12, 7], [11, 12]), ([0, 0, 2, 3, 4, 5, 6, 7, 11, 13], [0]), ([14, 0, 2, 3, 4, 5, 6, 7, 11, 13], [14]), ([15, 7, 13, 0, 2, 3, 4, 5, 6, 7, 11, 13], [7, 15]), ([1, 0, 1, 2, 3, 4, 5, 6, 7, 8, 9, 10, 11, 12, 13, 14, 15, 16], [1]), ([17, 0, 1, 2, 3, 4, 5, 6, 7, 8, 9, 10, 11, 12, 13, 14, 15, 16], [17]), ([18, 13, 16, 0, 1, 2, 3, 4, 5, 6, 7, 8, 9, 10, 11, 12, 13, 14, 15, 16], [13, 18])])
def recv_In.B11 : List Nat := [0, 0, 0, 4, 12, 28, 0, 124, 0, 256, 768, 1792, 0, 8188, 16381, 32765, 65533, 131071, 262143, 524287]
theorem recv_In.tab11 : rtab .any (opsOf Try.f9 11) = recv_In.T11 := by kernel_rfl
theorem recv_In.bits11 : waitsOk recv_In.T11.2 recv_In.B11 = true := by kernel_rfl

def InRel (w0 w : World) (g : Nat) (nx room : Int) (rd : List Int) (off win : Int) (s : ByteArray) (st0 : St) (n : Nat) (m i : Value) (wr : World) : Prop := ∃ k : Nat, k + n = s.size ∧ i = .int .i64 k ∧ m = .int .i64 ((inN off win s st0 k).2.2 : Nat) ∧ (inN off win s st0 k).2.2 ≤ k ∧ Buf w0.heap.size wr g nx room rd (inN off win s st0 k).1 (inN off win s st0 k).2.1 ∧ Below w0.heap.size w0 wr ∧ Keep w wr
theorem inS_many (off win c : Int) (i : Nat) (st : St) (h : st.2.2 ≤ i) : (inS off win c i st).2.2 ≤ i + 1 := by
  unfold inS
  split
  · omega
  · split
    · show st.2.2 ≤ i + 1; omega
    · show st.2.2 + 1 ≤ i + 1; omega
def InPost (w0 w : World) (g : Nat) (nx room : Int) (rd da : List Int) (th : List Bool) (off win : Int) (s : ByteArray) (e : Ending) (w' : World) : Prop :=
  e = .returned (.tuple #[.int .i64 ((inN off win s (da, th, 0) s.size).2.2 : Nat), .int .i64 0]) ∧
  Buf w0.heap.size w' g ((nx + lead (inN off win s (da, th, 0) s.size).2.1) % 4294967296) room (rd ++ (inN off win s (da, th, 0) s.size).1.take (lead (inN off win s (da, th, 0) s.size).2.1)) ((inN off win s (da, th, 0) s.size).1.drop (lead (inN off win s (da, th, 0) s.size).2.1)) ((inN off win s (da, th, 0) s.size).2.1.drop (lead (inN off win s (da, th, 0) s.size).2.1)) ∧
  Below w0.heap.size w0 w' ∧ Keep w w'
theorem q_put {w : World} {B e g o n c a : Nat} {xs : List Value} (h : QRow w B e 1 (.slice (some ⟨g, o, none⟩) n c) n xs) (ha : a < n) (v : Value) : QRow (w.setCell ⟨g, o + a, none⟩ v) B e 1 (.slice (some ⟨g, o, none⟩) n c) n (xs.set a v) := by
  obtain ⟨h1, h2⟩ := h
  rcases h2 with ⟨h0, _⟩ | ⟨g', off, cap, cur, he, hg, hh, hnc, hm, hcs, ht⟩
  · omega
  · injection he with he1 he2 he3
    injection he1 with he1
    injection he1 with hg1 ho1
    subst hg1
    have ho : o = off := by rw [ho1, Nat.mul_one]
    subst ho
    subst he3
    refine ⟨by rw [List.length_set]; exact h1, .inr ⟨g, o, c, cur.setIfInBounds (o + a) v, by rw [Nat.mul_one], hg, blk_set hh _ _, hnc, hm, by simpa using hcs, ?_⟩⟩
    rw [Nat.mul_one, Nat.mul_one] at ht ⊢
    rw [Array.toList_setIfInBounds, List.drop_set, if_neg (by omega), show o + a - o = a from by omega, List.take_set, ht]
theorem q_form {w : World} {B e n c : Nat} {A : Option Addr} {xs : List Value} (h : QRow w B e 1 (.slice A n c) n xs) (hn : 0 < n) : ∃ g o cs, A = some ⟨g, o, none⟩ ∧ w.heap[g]? = some (Obj.cells cs e (0, 0)) ∧ B ≤ g ∧ ∀ (j : Nat) (u : Value), xs[j]? = some u → w.cell? ⟨g, o + j, none⟩ = some u := by
  rcases h.2 with ⟨h0, _⟩ | ⟨g, off, cap, cur, he, hg, hh, hnc, hm, hcs, ht⟩
  · omega
  · injection he with he1 _ _
    subst he1
    obtain ⟨ad, ha, hc⟩ := q_cells h hn
    injection ha with ha
    subst ha
    exact ⟨g, off * 1, cur, rfl, hh, hg, fun j u hu => by have := hc j u hu; rwa [add_at] at this⟩
theorem inS_skip {off win c : Int} {i : Nat} {st : St} (h : off + i < 0 ∨ off + i ≥ win) : inS off win c i st = st := if_pos h
theorem inS_old {off win c : Int} {i a : Nat} {st : St} (h : ¬ (off + i < 0 ∨ off + i ≥ win)) (ha : off + i = (a : Int)) (ht : (ext st.2.1 false (a + 1)).getD a false = true) : inS off win c i st = (ext st.1 0 (a + 1), ext st.2.1 false (a + 1), st.2.2) := by
  unfold inS
  rw [if_neg h, ha, Int.toNat_natCast, if_pos ht]
theorem inS_new {off win c : Int} {i a : Nat} {st : St} (h : ¬ (off + i < 0 ∨ off + i ≥ win)) (ha : off + i = (a : Int)) (ht : (ext st.2.1 false (a + 1)).getD a false = false) : inS off win c i st = ((ext st.1 0 (a + 1)).set a c, (ext st.2.1 false (a + 1)).set a true, st.2.2 + 1) := by
  unfold inS
  rw [if_neg h, ha, Int.toNat_natCast, if_neg (by rw [ht]; decide)]
theorem in_next {w0 w wr : World} {g : Nat} {nx room : Int} {rd : List Int} {off win : Int} {s : ByteArray} {st0 : St} {k n : Nat} {m i : Value} (hk : k + (n + 1) = s.size) (hi : i = .int .i64 ((k : Int) + 1)) (hm : m = .int .i64 ((inN off win s st0 (k + 1)).2.2 : Nat)) (hmk : (inN off win s st0 k).2.2 ≤ k)
    (hb : Buf w0.heap.size wr g nx room rd (inN off win s st0 (k + 1)).1 (inN off win s st0 (k + 1)).2.1) (hw : Below w0.heap.size w0 wr) (hkp : Keep w wr) : InRel w0 w g nx room rd off win s st0 n m i wr :=
  ⟨k + 1, by omega, by rw [hi]; rfl, hm, inS_many off win _ k _ hmk, hb, hw, hkp⟩
theorem grow_next {w0 w w1 : World} {g : Nat} {nx room : Int} {rd da d : List Int} {th t : List Bool} {a n : Nat} {vr v7 v13 : Value} (hb : Box w1 g nx room vr v7 v13) (hg : w0.heap.size ≤ g) (hr : QRow w1 w0.heap.size 5 1 vr rd.length (u8s rd)) (hd : QRow w1 w0.heap.size 5 1 v7 (d.length + 1) (u8s (d ++ [0]))) (ht : QRow w1 w0.heap.size 4 1 v13 (t.length + 1) (bls (t ++ [false]))) (hap : ∀ k, vr.ownBlock = some k → v7.ownBlock ≠ some k)
    (hl : d.length = t.length) (hn : d.length + (n + 1) = max da.length (a + 1)) (hda : d.length < a + 1) (e1 : ext d 0 (a + 1) = ext da 0 (a + 1)) (e2 : ext t false (a + 1) = ext th false (a + 1)) (hw : Below w0.heap.size w0 w1) (hk : Keep w w1) : GrowRel w0 w g nx room rd da th a n w1 := by
  refine ⟨d ++ [0], t ++ [false], ⟨vr, v7, v13, hb, hg, ⟨hr, by rw [List.length_append]; exact hd, by rw [List.length_append]; exact ht, hap⟩⟩, by simp [hl], by simp; omega, ?_, ?_, hw, hk⟩
  · rw [ext_snoc d 0 (a + 1) (by omega)]; exact e1
  · rw [ext_snoc t false (a + 1) (by omega)]; exact e2
theorem grow_end {da d : List Int} {th t : List Bool} {a : Nat} (hl : d.length = t.length) (hd : a < d.length) (e1 : ext d 0 (a + 1) = ext da 0 (a + 1)) (e2 : ext t false (a + 1) = ext th false (a + 1)) : d = ext da 0 (a + 1) ∧ t = ext th false (a + 1) :=
  ⟨by rw [← e1, ext_id d 0 (a + 1) (by omega)], by rw [← e2, ext_id t false (a + 1) (by omega)]⟩
theorem bt_at (s : ByteArray) (k : Nat) (h : k < s.size) : bt s (k : Int) = ((s[k]'h).toNat : Int) := by unfold bt; rw [dif_pos (by simpa using h)]; rfl
theorem put_rows {B : Nat} {w : World} {g gd od gt ot cd ct a : Nat} {vr : Value} {rd d : List Int} {t : List Bool} {csd cst : Array Value} (h : Rows B w g vr (.slice (some ⟨gd, od, none⟩) d.length cd) (.slice (some ⟨gt, ot, none⟩) t.length ct) rd d t) (hbd : w.heap[gd]? = some (Obj.cells csd 5 (0, 0))) (hbt : w.heap[gt]? = some (Obj.cells cst 4 (0, 0))) (ha : a < d.length) (hat : a < t.length) (c : Int) :
    Rows B ((w.setCell ⟨gd, od + a, none⟩ (.int .u8 c)).setCell ⟨gt, ot + a, none⟩ (.bool true)).drew g vr (.slice (some ⟨gd, od, none⟩) d.length cd) (.slice (some ⟨gt, ot, none⟩) t.length ct) rd (d.set a c) (t.set a true) := by
  have hne : gd ≠ gt := blk_ne hbd hbt (by decide)
  have hbt1 : (w.setCell ⟨gd, od + a, none⟩ (.int .u8 c)).heap[gt]? = some (Obj.cells cst 4 (0, 0)) := blk_far hbt (p := ⟨gd, od + a, none⟩) (fun e => hne e.symm) _
  have hd := q_set (q_put h.d ha (.int .u8 c)) (o := ot + a) (u := .bool true) hbt1 (by decide)
  have ht := q_put (q_set h.t (o := od + a) (u := .int .u8 c) hbd (by decide)) hat (.bool true)
  have hr1 : QRow (w.setCell ⟨gd, od + a, none⟩ (.int .u8 c)) B 5 1 vr rd.length (u8s rd) := q_move h.r (fun k hk => Below.heap_setCell w ⟨gd, od + a, none⟩ _ k (fun e => h.ap k hk (by rw [e]; rfl)))
  have hr := q_set hr1 (o := ot + a) (u := .bool true) hbt1 (by decide)
  have e1 : (u8s d).set a (.int .u8 c) = u8s (d.set a c) := by unfold u8s; rw [List.map_set]
  have e2 : (bls t).set a (.bool true) = bls (t.set a true) := by unfold bls; rw [List.map_set]
  rw [e1] at hd
  rw [e2] at ht
  exact ⟨q_move hr (fun _ _ => rfl), by rw [List.length_set]; exact q_move hd (fun _ _ => rfl), by rw [List.length_set]; exact q_move ht (fun _ _ => rfl), h.ap⟩
theorem put_buf {B : Nat} {w : World} {g gd od gt ot cd ct a : Nat} {nx room : Int} {vr : Value} {rd d : List Int} {t : List Bool} {csd cst : Array Value} (hbox : Box w g nx room vr (.slice (some ⟨gd, od, none⟩) d.length cd) (.slice (some ⟨gt, ot, none⟩) t.length ct)) (hg : B ≤ g) (h : Rows B w g vr (.slice (some ⟨gd, od, none⟩) d.length cd) (.slice (some ⟨gt, ot, none⟩) t.length ct) rd d t) (hbd : w.heap[gd]? = some (Obj.cells csd 5 (0, 0))) (hbt : w.heap[gt]? = some (Obj.cells cst 4 (0, 0))) (ha : a < d.length) (hat : a < t.length) (c : Int) :
    Buf B ((w.setCell ⟨gd, od + a, none⟩ (.int .u8 c)).setCell ⟨gt, ot + a, none⟩ (.bool true)).drew g nx room rd (d.set a c) (t.set a true) :=
  ⟨_, _, _, blk_far (blk_far hbox (p := ⟨gd, od + a, none⟩) (blk_ne hbox hbd (by decide)) _) (p := ⟨gt, ot + a, none⟩) (blk_ne hbox hbt (by decide)) _, hg, put_rows h hbd hbt ha hat c⟩
theorem put_keep {w0 w1 w : World} {gd od gt ot a : Nat} {c : Int} {csd cst : Array Value} (hk : Keep w0 w) (hb : Below w1.heap.size w1 w) (h1 : w1.heap.size ≤ gd) (h2 : w1.heap.size ≤ gt) (hbd : w.heap[gd]? = some (Obj.cells csd 5 (0, 0))) (hbt : w.heap[gt]? = some (Obj.cells cst 4 (0, 0))) :
    Below w1.heap.size w1 ((w.setCell ⟨gd, od + a, none⟩ (.int .u8 c)).setCell ⟨gt, ot + a, none⟩ (.bool true)).drew ∧ Keep w0 ((w.setCell ⟨gd, od + a, none⟩ (.int .u8 c)).setCell ⟨gt, ot + a, none⟩ (.bool true)).drew :=
  ⟨below_drew ((hb.setCell (p := ⟨gd, od + a, none⟩) h1 _).setCell (p := ⟨gt, ot + a, none⟩) h2 _), (hk.trans (Keep.set (o := od + a) (v := .int .u8 c) hbd (.inr (.inl rfl)))).trans (Keep.set (o := ot + a) (v := .bool true) (blk_far hbt (p := ⟨gd, od + a, none⟩) (fun e => blk_ne hbd hbt (by decide) e.symm) (.int .u8 c)) (.inl rfl))⟩
set_option maxHeartbeats 8000000 in
set_option maxRecDepth 100000 in
theorem in_calls {w0 w : World} {g : Nat} {nx room frm off win : Int} {rd da : List Int} {th : List Bool} {s : ByteArray} (h : Buf w0.heap.size w g nx room rd da th) (hb : Below w0.heap.size w0 w) (hl : da.length = th.length) (h1 : rd.length ≤ 65535) (h2 : da.length ≤ 100000) (hn : 0 ≤ nx ∧ nx < 4294967296) (hroom : 0 ≤ room ∧ room ≤ 65535) (hs : s.size ≤ 4096) (hoff : seq_Diff.f frm nx = some off) (hob : -2147483648 ≤ off ∧ off < 2147483648) (hwin : win = room - (rd.length : Int)) :
    Calls Try.prog 9 #[.pointer (some ⟨g, 0, none⟩), .int .u32 frm, .string s] w (InPost w0 w g nx room rd da th off win s) := by
  have HWIN := Aside0.mk hwin
  have hwb : win ≤ 65535 ∧ -65535 ≤ win := by omega
  clear hwin
  have HBUF := Aside0.mk h
  have HB0 := Aside0.mk hb
  have HLL := Aside0.mk hl
  have HOF := Aside0.mk hoff
  have HLEN := Aside0.mk (fun k => inN_len off win s (da, th, 0) hl 100000 h2 (by omega) k)
  obtain ⟨Ar0, cr0, Ad0, cd0, At0, ct0, hbox0, _⟩ := h.open
  have c00 := blk_cell hbox0 0
  clear h hb hl hoff hbox0
  go_enter Try.func9, Try.ntmps9
  go_wp2_with (go_at_call 33; (with_reducible refine (seq_Diff.calls frm nx off _ HOF.out).mono ?_); rintro e' w1 ⟨rfl, hd1⟩; have HD1 := Aside0.mk hd1; clear hd1)
  have HBUF1 := Aside0.mk (HBUF.out.below HD1.out.below)
  have HB1 := Aside0.mk (HB0.out.trans (HD1.out.below.mono HB0.out.size))
  have HK1 := Aside0.mk (Keep.below HD1.out.below)
  clear c00
  go_loopg [9, 23] s.size (fun n m i wr => InRel w0 w g nx room rd off win s (da, th, 0) n m i wr)
  case atStart => exact ⟨0, by omega, rfl, rfl, Nat.le_refl _, HBUF1.out, HB1.out, HK1.out⟩
  case round =>
    obtain ⟨k, hk, rfl, rfl, hmk, hbuf, hbel, hkeep⟩ := hrel
    have HBUF2 := Aside0.mk hbuf
    have HB2 := Aside0.mk hbel
    have HK2 := Aside0.mk hkeep
    clear hbuf hbel hkeep
    by_cases hlt : k < s.size
    · obtain ⟨n, rfl⟩ : ∃ n, gk = n + 1 := ⟨gk - 1, by omega⟩
      have dlt : decide (k < s.size) = true := decide_eq_true hlt
      by_cases hneg : off + (k : Int) < 0
      · have HNEG := Aside0.mk hneg
        have dng : decide (off + (k : Int) < 0) = true := decide_eq_true hneg
        go_wp2
        go_roundg n
        case measure => omega
        case rel =>
          have e1 : inN off win s (da, th, 0) (k + 1) = inN off win s (da, th, 0) k := inS_skip (.inl HNEG.out)
          exact in_next hk rfl (by rw [e1]) hmk (by rw [e1]; exact HBUF2.out) HB2.out HK2.out
      · have dng : decide (off + (k : Int) < 0) = false := decide_eq_false hneg
        by_cases hge : win ≤ off + (k : Int)
        · have HGE := Aside0.mk hge
          have dge : decide (room - (rd.length : Int) ≤ off + (k : Int)) = true := decide_eq_true (by rw [← HWIN.out]; exact hge)
          clear hge
          go_wp2_with (go_at_call 15; (with_reducible refine (window_calls HBUF2.out hroom (by omega)).mono ?_); rintro e' w3 ⟨rfl, hd3⟩; have HD3 := Aside0.mk hd3; clear hd3)
          go_roundg n
          case measure => omega
          case rel =>
            have e1 : inN off win s (da, th, 0) (k + 1) = inN off win s (da, th, 0) k := inS_skip (.inr HGE.out)
            exact in_next hk rfl (by rw [e1]) hmk (by rw [e1]; exact HBUF2.out.below HD3.out.below) (HB2.out.trans (HD3.out.below.mono HB2.out.size)) (HK2.out.trans (Keep.below HD3.out.below))
        · have dge : decide (room - (rd.length : Int) ≤ off + (k : Int)) = false := decide_eq_false (by rw [← HWIN.out]; exact hge)
          have HIN := Aside0.mk (show ¬ (off + (k : Int) < 0 ∨ off + (k : Int) ≥ win) from fun q => by rcases q with q | q <;> omega)
          obtain ⟨a, ha⟩ : ∃ a : Nat, off + (k : Int) = a := ⟨(off + (k : Int)).toNat, by omega⟩
          have haw : a < 65535 := by omega
          have HA := Aside0.mk ha
          clear ha hge hneg
          go_upto_region 10 with (go_at_call 15; (with_reducible refine (window_calls HBUF2.out hroom (by omega)).mono ?_); rintro e' w3 ⟨rfl, hd3⟩; have HD3 := Aside0.mk hd3; clear hd3)
          rw [HA.out]
          have HBUF3 := Aside0.mk (HBUF2.out.below HD3.out.below)
          have HB3 := Aside0.mk (HB2.out.trans (HD3.out.below.mono HB2.out.size))
          have HK3 := Aside0.mk (HK2.out.trans (Keep.below HD3.out.below))
          have HLN := Aside0.mk (HLEN.out k)
          go_loopg [] (max (inN off win s (da, th, 0) k).1.length (a + 1) - (inN off win s (da, th, 0) k).1.length) (fun n wr => GrowRel w0 w g nx room rd (inN off win s (da, th, 0) k).1 (inN off win s (da, th, 0) k).2.1 a n wr)
          case atStart => exact ⟨_, _, HBUF3.out, HLN.out.1, by omega, rfl, rfl, HB3.out, HK3.out⟩
          case round =>
            obtain ⟨d, t, hbuf, hdl, hdn, he1, he2, hbw, hkw⟩ := hrel
            obtain ⟨Ar, cr, Ad, cd, At, ct, hbox, hg, hrows, hrc, hdc, htc⟩ := hbuf.open
            have HDN := Aside0.mk hdn
            have HDL := Aside0.mk hdl
            have HE1 := Aside0.mk he1
            have HE2 := Aside0.mk he2
            have HBW := Aside0.mk hbw
            have HKW := Aside0.mk hkw
            have HBOX := Aside0.mk hbox
            have HG := Aside0.mk hg
            have HROWS := Aside0.mk hrows
            have hd6 : d.length ≤ 1000000 := by have := HLN.out.2; omega
            have ht6 : t.length ≤ 1000000 := by omega
            clear hbuf hdl hdn he1 he2 hbw hkw hg hrows
            have c3 := blk_cell hbox 3
            clear hbox
            by_cases hle : d.length ≤ a
            · obtain ⟨n2, rfl⟩ : ∃ q, gk = q + 1 := ⟨gk - 1, by have := HDN.out; omega⟩
              have dle : decide (d.length ≤ a) = true := decide_eq_true hle
              go_wp2
              have HB := Aside0.mk (show Below w0.heap.size w0 wr.drew from below_drew HBW.out)
              have B0 := Aside0.mk (show Box wr.drew g nx room (.slice Ar rd.length cr) (.slice Ad d.length cd) (.slice At t.length ct) from HBOX.out)
              have R0 := Aside0.mk HROWS.out.drew.r
              have D0 := Aside0.mk HROWS.out.drew.d
              have T0 := Aside0.mk HROWS.out.drew.t
              have HAP := Aside0.mk HROWS.out.ap
              clear c3
              refine start_ (n := 20) (S := fun w' => True) (ds := []) #[false, false, false, false, false, false, false, false, false, false, false, false, false, false, false, false, false, false, false, false] (by kernel_rfl) rfl rfl trivial (fun hHeld => ?_); refine with_tabW recv_In.tab11 recv_In.bits11 (fun HT_ HW_ => ?_)
              obtain ⟨wS, hwS⟩ : ∃ x, wr.drew = x := ⟨_, rfl⟩
              have HWS := Aside0.mk hwS
              rw [hwS] at HB B0 R0 D0 T0 ⊢
              clear hwS
              have HK := Aside0.mk (Keep.refl wS)
              refine pure_ (i := 0) (N := some 44) (v := ?_) (a' := ?_) #[true, false, false, false, false, false, false, false, false, false, false, false, false, false, false, false, false, false, false, false] rfl rfl (any_of HT_.out (by kernel_rfl)) (fun _ _ _ h => h) (Or.inl ⟨by rfl, ?_⟩) ?_ ?_
              rotate_left
              · intro w'
                go_simp
                with_reducible rfl
              rotate_left
              · simp only [Act.put, List.setIfInBounds_toArray, List.set_cons_zero, List.set_cons_succ, i64_w, i32_w]
                rfl
              refine pure_ (i := 1) (N := some 45) (v := ?_) (a' := ?_) #[true, true, false, false, false, false, false, false, false, false, false, false, false, false, false, false, false, false, false, false] rfl rfl (any_of HT_.out (by kernel_rfl)) (fun _ _ _ h => h) (Or.inl ⟨by rfl, ?_⟩) ?_ ?_
              rotate_left
              · intro w'
                go_simp
                with_reducible rfl
              rotate_left
              · simp only [Act.put, List.setIfInBounds_toArray, List.set_cons_zero, List.set_cons_succ, i64_w, i32_w]
                rfl
              refine pure_ (i := 2) (N := some 46) (v := ?_) (a' := ?_) #[true, true, true, false, false, false, false, false, false, false, false, false, false, false, false, false, false, false, false, false] rfl rfl (any_of HT_.out (by kernel_rfl)) (fun _ _ _ h => h) (Or.inl ⟨by rfl, ?_⟩) ?_ ?_
              rotate_left
              · intro w'
                go_simp
                with_reducible rfl
              rotate_left
              · simp only [Act.put, List.setIfInBounds_toArray, List.set_cons_zero, List.set_cons_succ, i64_w, i32_w]
                rfl
              refine pure_ (i := 3) (N := some 47) (v := ?_) (a' := ?_) #[true, true, true, true, false, false, false, false, false, false, false, false, false, false, false, false, false, false, false, false] rfl rfl (any_of HT_.out (by kernel_rfl)) (fun _ _ _ h => h) (Or.inl ⟨by rfl, ?_⟩) ?_ ?_
              rotate_left
              · intro w'
                go_simp
                with_reducible rfl
              rotate_left
              · simp only [Act.put, List.setIfInBounds_toArray, List.set_cons_zero, List.set_cons_succ, i64_w, i32_w]
                rfl
              refine pure_ (i := 4) (N := some 48) (v := ?_) (a' := ?_) #[true, true, true, true, true, false, false, false, false, false, false, false, false, false, false, false, false, false, false, false] rfl rfl (any_of HT_.out (by kernel_rfl)) (fun _ _ _ h => h) (Or.inl ⟨by rfl, ?_⟩) ?_ ?_
              rotate_left
              · intro w'
                go_simp
                with_reducible rfl
              rotate_left
              · simp only [Act.put, List.setIfInBounds_toArray, List.set_cons_zero, List.set_cons_succ, i64_w, i32_w]
                rfl
              refine pure_ (i := 8) (N := some 52) (v := ?_) (a' := ?_) #[true, true, true, true, true, false, false, false, true, false, false, false, false, false, false, false, false, false, false, false] rfl rfl (any_of HT_.out (by kernel_rfl)) (fun _ _ _ h => h) (Or.inl ⟨by rfl, ?_⟩) ?_ ?_
              rotate_left
              · intro w'
                go_simp
                with_reducible rfl
              rotate_left
              · simp only [Act.put, List.setIfInBounds_toArray, List.set_cons_zero, List.set_cons_succ, i64_w, i32_w]
                rfl
              refine pure_ (i := 9) (N := some 53) (v := ?_) (a' := ?_) #[true, true, true, true, true, false, false, false, true, true, false, false, false, false, false, false, false, false, false, false] rfl rfl (any_of HT_.out (by kernel_rfl)) (fun _ _ _ h => h) (Or.inl ⟨by rfl, ?_⟩) ?_ ?_
              rotate_left
              · intro w'
                go_simp
                with_reducible rfl
              rotate_left
              · simp only [Act.put, List.setIfInBounds_toArray, List.set_cons_zero, List.set_cons_succ, i64_w, i32_w]
                rfl
              refine pure_ (i := 10) (N := some 54) (v := ?_) (a' := ?_) #[true, true, true, true, true, false, false, false, true, true, true, false, false, false, false, false, false, false, false, false] rfl rfl (any_of HT_.out (by kernel_rfl)) (fun _ _ _ h => h) (Or.inl ⟨by rfl, ?_⟩) ?_ ?_
              rotate_left
              · intro w'
                go_simp
                with_reducible rfl
              rotate_left
              · simp only [Act.put, List.setIfInBounds_toArray, List.set_cons_zero, List.set_cons_succ, i64_w, i32_w]
                rfl
              refine inv_at [5, 6, 7, 11, 12, 13, 14, 15, 16, 17, 18, 19] (fun a0_ b a w' => ∃ (z6_ : Nat) (z12_ : Nat) (A7_ : Option Addr) (c7_ : Nat) (A13_ : Option Addr) (c13_ : Nat) (m6_ : Value) (m7_ : Value) (m12_ : Value) (m13_ : Value), a = putSel a0_ b [(5, 49, .slice Ad d.length cd), (6, 50, m6_), (7, 51, m7_), (11, 55, .slice At t.length ct), (12, 56, m12_), (13, 57, m13_), (14, 58, .pointer (some ⟨g, 0, none⟩)), (15, 59, .pointer (some ⟨g, 3, none⟩)), (17, 60, .pointer (some ⟨g, 0, none⟩)), (18, 61, .pointer (some ⟨g, 4, none⟩))] ∧ (Below w0.heap.size w0 w') ∧ (Keep wS w') ∧ (b 16 = false → Box w' g nx room (.slice Ar rd.length cr) (.slice Ad d.length cd) (.slice At t.length ct)) ∧ (b 16 = true → b 19 = false → Box w' g nx room (.slice Ar rd.length cr) (.slice A7_ (d.length + 1) c7_) (.slice At t.length ct)) ∧ (b 19 = true → Box w' g nx room (.slice Ar rd.length cr) (.slice A7_ (d.length + 1) c7_) (.slice A13_ (t.length + 1) c13_)) ∧ (QRow w' w0.heap.size 5 1 (.slice Ar rd.length cr) rd.length (u8s rd)) ∧ (b 7 = false → QRow w' w0.heap.size 5 1 (.slice Ad d.length cd) d.length (u8s d)) ∧ (b 7 = true → QRow w' w0.heap.size 5 1 (.slice A7_ (d.length + 1) c7_) (d.length + 1) (u8s (d ++ [0]))) ∧ (b 7 = true → ∀ k, (Value.slice Ar rd.length cr).ownBlock = some k → (Value.slice A7_ (d.length + 1) c7_).ownBlock ≠ some k) ∧ (b 13 = false → QRow w' w0.heap.size 4 1 (.slice At t.length ct) t.length (bls t)) ∧ (b 13 = true → QRow w' w0.heap.size 4 1 (.slice A13_ (t.length + 1) c13_) (t.length + 1) (bls (t ++ [false]))) ∧ (b 6 = true → b 7 = false → w'.heap[z6_]? = some (Obj.cells #[.int .u8 0] 5 (0, 0))) ∧ (b 12 = true → b 13 = false → w'.heap[z12_]? = some (Obj.cells #[.bool false] 4 (0, 0))) ∧ (b 6 = true → (m6_ : Value) = .slice (some ⟨z6_, 0, none⟩) 1 1) ∧ (b 7 = true → (m7_ : Value) = .slice A7_ (d.length + 1) c7_) ∧ (b 12 = true → (m12_ : Value) = .slice (some ⟨z12_, 0, none⟩) 1 1) ∧ (b 13 = true → (m13_ : Value) = .slice A13_ (t.length + 1) c13_)) HT_.out HW_.out (by kernel_rfl) (by kernel_rfl) ?_ ?_ ?_
              · exact ⟨0, 0, none, 0, none, 0, .bool false, .bool false, .bool false, .bool false, by simp only [putSel, Bool.false_eq_true, if_false], HB.out, HK.out, fun _ => B0.out, fun h_ => absurd h_ (by decide), fun h_ => absurd h_ (by decide), R0.out, fun _ => D0.out, fun h_ => absurd h_ (by decide), fun h_ => absurd h_ (by decide), fun _ => T0.out, fun h_ => absurd h_ (by decide), fun h_ => absurd h_ (by decide), fun h_ => absurd h_ (by decide), fun h_ => absurd h_ (by decide), fun h_ => absurd h_ (by decide), fun h_ => absurd h_ (by decide), fun h_ => absurd h_ (by decide)⟩
              · skip
                clear B0 D0 HB HK R0 T0
                refine steps_cons ?_ ?_
                · rintro b a w' ⟨z6_, z12_, A7_, c7_, A13_, c13_, m6_, m7_, m12_, m13_, ha, Q_HB, Q_HK, Q_B0, Q_B1, Q_B2, Q_R0, Q_D0, Q_D1, Q_AP1, Q_T0, Q_T1, Q_Z6, Q_Z12, Q_X6_, Q_X7_, Q_X12_, Q_X13_⟩ hb_ hon hoff
                  refine ⟨_, rfl, fun K hK => ?_⟩
                  have e48 : a.tmps[48]? = some (.pointer (some ⟨g, 3, none⟩)) := by rw [ha]; exact (putSel_off rfl).trans rfl
                  replace ha := Aside0.mk ha
                  have HB := Aside0.mk Q_HB
                  have HK := Aside0.mk Q_HK
                  have B0 := Aside0.mk (Q_B0 (hoff 16 (by kernel_rfl)))
                  have R0 := Aside0.mk Q_R0
                  have D0 := Aside0.mk (Q_D0 (hoff 7 (by kernel_rfl)))
                  have T0 := Aside0.mk (Q_T0 (hoff 13 (by kernel_rfl)))
                  have hc3_ : w'.cell? ⟨g, 3, none⟩ = some (.slice Ad d.length cd) := (blk_cell B0.out 3).trans rfl
                  refine value_ (w1 := w') (v := .slice Ad d.length cd) (by rfl) rfl ?_ ?_
                  · go_simp
                    (try simp only [i64_w])
                    try rfl
                  refine hK.out _ _ ⟨z6_, z12_, A7_, c7_, A13_, c13_, m6_, m7_, m12_, m13_, (by rw [ha.out]; exact putSel_upk 0 hb_ rfl rfl rfl), Q_HB, Q_HK, Q_B0, fun h0_ _ => absurd ((hoff 16 (by kernel_rfl)).symm.trans h0_) (by decide), fun h0_ => absurd ((hoff 19 (by kernel_rfl)).symm.trans h0_) (by decide), Q_R0, Q_D0, fun h0_ => absurd ((hoff 7 (by kernel_rfl)).symm.trans h0_) (by decide), fun h0_ => absurd ((hoff 7 (by kernel_rfl)).symm.trans h0_) (by decide), Q_T0, fun h0_ => absurd ((hoff 13 (by kernel_rfl)).symm.trans h0_) (by decide), Q_Z6, Q_Z12, Q_X6_, fun h0_ => absurd ((hoff 7 (by kernel_rfl)).symm.trans h0_) (by decide), Q_X12_, fun h0_ => absurd ((hoff 13 (by kernel_rfl)).symm.trans h0_) (by decide)⟩
                refine steps_cons ?_ ?_
                · rintro b a w' ⟨z6_, z12_, A7_, c7_, A13_, c13_, m6_, m7_, m12_, m13_, ha, Q_HB, Q_HK, Q_B0, Q_B1, Q_B2, Q_R0, Q_D0, Q_D1, Q_AP1, Q_T0, Q_T1, Q_Z6, Q_Z12, Q_X6_, Q_X7_, Q_X12_, Q_X13_⟩ hb_ hon hoff
                  refine ⟨_, rfl, fun K hK => ?_⟩
                  replace ha := Aside0.mk ha
                  have HB := Aside0.mk Q_HB
                  have HK := Aside0.mk Q_HK
                  have B0 := Aside0.mk (Q_B0 (hoff 16 (by kernel_rfl)))
                  have R0 := Aside0.mk Q_R0
                  have D0 := Aside0.mk (Q_D0 (hoff 7 (by kernel_rfl)))
                  have T0 := Aside0.mk (Q_T0 (hoff 13 (by kernel_rfl)))
                  refine value_ (w1 := w'.alloc (.cells #[.int .u8 0] 5)) (v := .slice (some ⟨w'.heap.size, 0, none⟩) 1 1) (by rfl) rfl ?_ ?_
                  · go_simp
                    (try rfl)
                  refine hK.out _ _ ⟨w'.heap.size, z12_, A7_, c7_, A13_, c13_, (.slice (some ⟨w'.heap.size, 0, none⟩) 1 1), m7_, m12_, m13_, (by rw [ha.out]; exact putSel_upk 1 hb_ rfl rfl rfl), (below_alloc HB.out _), (HK.out.trans (keep_al _ _)), fun _ => (blk_alloc B0.out _), fun h0_ _ => absurd ((hoff 16 (by kernel_rfl)).symm.trans h0_) (by decide), fun h0_ => absurd ((hoff 19 (by kernel_rfl)).symm.trans h0_) (by decide), (q_al R0.out _), fun _ => (q_al D0.out _), fun h0_ => absurd ((hoff 7 (by kernel_rfl)).symm.trans h0_) (by decide), fun h0_ => absurd ((hoff 7 (by kernel_rfl)).symm.trans h0_) (by decide), fun _ => (q_al T0.out _), fun h0_ => absurd ((hoff 13 (by kernel_rfl)).symm.trans h0_) (by decide), fun _ _ => (heap_alloc_new w' _), fun h0_ h1_ => (blk_alloc (Q_Z12 h0_ h1_) _), fun _ => rfl, fun h0_ => absurd ((hoff 7 (by kernel_rfl)).symm.trans h0_) (by decide), Q_X12_, fun h0_ => absurd ((hoff 13 (by kernel_rfl)).symm.trans h0_) (by decide)⟩
                refine steps_cons ?_ ?_
                · rintro b a w' ⟨z6_, z12_, A7_, c7_, A13_, c13_, m6_, m7_, m12_, m13_, ha, Q_HB, Q_HK, Q_B0, Q_B1, Q_B2, Q_R0, Q_D0, Q_D1, Q_AP1, Q_T0, Q_T1, Q_Z6, Q_Z12, Q_X6_, Q_X7_, Q_X12_, Q_X13_⟩ hb_ hon hoff
                  refine ⟨_, rfl, fun K hK => ?_⟩
                  have e49 : a.tmps[49]? = some (.slice Ad d.length cd) := by rw [ha]; exact putSel_on (e := (5, 49, .slice Ad d.length cd)) 0 rfl rfl (hon 5 (by kernel_rfl)) rfl
                  have e50 : a.tmps[50]? = some (m6_) := by rw [ha]; exact putSel_on (e := (6, 50, m6_)) 1 rfl rfl (hon 6 (by kernel_rfl)) rfl
                  rw [Q_X6_ (hon 6 (by kernel_rfl))] at e50
                  replace ha := Aside0.mk ha
                  have HB := Aside0.mk Q_HB
                  have HK := Aside0.mk Q_HK
                  have B0 := Aside0.mk (Q_B0 (hoff 16 (by kernel_rfl)))
                  have R0 := Aside0.mk Q_R0
                  have D0 := Aside0.mk (Q_D0 hb_)
                  have T0 := Aside0.mk (Q_T0 (hoff 13 (by kernel_rfl)))
                  have Z6 := Aside0.mk (Q_Z6 (hon 6 (by kernel_rfl)) hb_)
                  obtain ⟨A7n, c7n, w1n, hrn, hq1n, hrrn, hapn, hbn, hkn, hfn⟩ := grow5 D0.out HB.out Z6.out R0.out HAP.out hd6
                  refine value_ (w1 := w1n) (v := .slice A7n (d.length + 1) c7n) (by rfl) rfl (exec_append rfl (eval_of e49) (eval_of e50) hrn) ?_
                  refine hK.out _ _ ⟨z6_, z12_, A7n, c7n, A13_, c13_, m6_, (.slice A7n (d.length + 1) c7n), m12_, m13_, (by rw [ha.out]; exact putSel_upk 2 hb_ rfl rfl rfl), hbn, (HK.out.trans hkn), fun _ => (hfn _ _ _ B0.out (by decide)), fun h0_ _ => absurd ((hoff 16 (by kernel_rfl)).symm.trans h0_) (by decide), fun h0_ => absurd ((hoff 19 (by kernel_rfl)).symm.trans h0_) (by decide), hrrn, fun h0_ => absurd ((up_self b 7).symm.trans h0_) (by decide), fun _ => hq1n, fun _ => hapn, fun _ => (q_far5 T0.out (by decide) hfn), fun h0_ => absurd ((hoff 13 (by kernel_rfl)).symm.trans h0_) (by decide), fun _ h1_ => absurd ((up_self b 7).symm.trans h1_) (by decide), fun h0_ h1_ => (hfn _ _ _ (Q_Z12 h0_ h1_) (by decide)), Q_X6_, fun _ => rfl, Q_X12_, fun h0_ => absurd ((hoff 13 (by kernel_rfl)).symm.trans h0_) (by decide)⟩
                refine steps_cons ?_ ?_
                · rintro b a w' ⟨z6_, z12_, A7_, c7_, A13_, c13_, m6_, m7_, m12_, m13_, ha, Q_HB, Q_HK, Q_B0, Q_B1, Q_B2, Q_R0, Q_D0, Q_D1, Q_AP1, Q_T0, Q_T1, Q_Z6, Q_Z12, Q_X6_, Q_X7_, Q_X12_, Q_X13_⟩ hb_ hon hoff
                  refine ⟨_, rfl, fun K hK => ?_⟩
                  have e54 : a.tmps[54]? = some (.pointer (some ⟨g, 4, none⟩)) := by rw [ha]; exact (putSel_off rfl).trans rfl
                  replace ha := Aside0.mk ha
                  have HB := Aside0.mk Q_HB
                  have HK := Aside0.mk Q_HK
                  have B0 := Aside0.mk (Q_B0 (hoff 16 (by kernel_rfl)))
                  have R0 := Aside0.mk Q_R0
                  have T0 := Aside0.mk (Q_T0 (hoff 13 (by kernel_rfl)))
                  have hc4_ : w'.cell? ⟨g, 4, none⟩ = some (.slice At t.length ct) := (blk_cell B0.out 4).trans rfl
                  refine value_ (w1 := w') (v := .slice At t.length ct) (by rfl) rfl ?_ ?_
                  · go_simp
                    (try simp only [i64_w])
                    try rfl
                  refine hK.out _ _ ⟨z6_, z12_, A7_, c7_, A13_, c13_, m6_, m7_, m12_, m13_, (by rw [ha.out]; exact putSel_upk 3 hb_ rfl rfl rfl), Q_HB, Q_HK, Q_B0, fun h0_ _ => absurd ((hoff 16 (by kernel_rfl)).symm.trans h0_) (by decide), fun h0_ => absurd ((hoff 19 (by kernel_rfl)).symm.trans h0_) (by decide), Q_R0, Q_D0, Q_D1, Q_AP1, Q_T0, fun h0_ => absurd ((hoff 13 (by kernel_rfl)).symm.trans h0_) (by decide), Q_Z6, Q_Z12, Q_X6_, Q_X7_, Q_X12_, fun h0_ => absurd ((hoff 13 (by kernel_rfl)).symm.trans h0_) (by decide)⟩
                refine steps_cons ?_ ?_
                · rintro b a w' ⟨z6_, z12_, A7_, c7_, A13_, c13_, m6_, m7_, m12_, m13_, ha, Q_HB, Q_HK, Q_B0, Q_B1, Q_B2, Q_R0, Q_D0, Q_D1, Q_AP1, Q_T0, Q_T1, Q_Z6, Q_Z12, Q_X6_, Q_X7_, Q_X12_, Q_X13_⟩ hb_ hon hoff
                  refine ⟨_, rfl, fun K hK => ?_⟩
                  replace ha := Aside0.mk ha
                  have HB := Aside0.mk Q_HB
                  have HK := Aside0.mk Q_HK
                  have B0 := Aside0.mk (Q_B0 (hoff 16 (by kernel_rfl)))
                  have R0 := Aside0.mk Q_R0
                  have T0 := Aside0.mk (Q_T0 (hoff 13 (by kernel_rfl)))
                  refine value_ (w1 := w'.alloc (.cells #[.bool false] 4)) (v := .slice (some ⟨w'.heap.size, 0, none⟩) 1 1) (by rfl) rfl ?_ ?_
                  · go_simp
                    (try rfl)
                  refine hK.out _ _ ⟨z6_, w'.heap.size, A7_, c7_, A13_, c13_, m6_, m7_, (.slice (some ⟨w'.heap.size, 0, none⟩) 1 1), m13_, (by rw [ha.out]; exact putSel_upk 4 hb_ rfl rfl rfl), (below_alloc HB.out _), (HK.out.trans (keep_al _ _)), fun _ => (blk_alloc B0.out _), fun h0_ _ => absurd ((hoff 16 (by kernel_rfl)).symm.trans h0_) (by decide), fun h0_ => absurd ((hoff 19 (by kernel_rfl)).symm.trans h0_) (by decide), (q_al R0.out _), fun h0_ => (q_al (Q_D0 h0_) _), fun h0_ => (q_al (Q_D1 h0_) _), Q_AP1, fun _ => (q_al T0.out _), fun h0_ => absurd ((hoff 13 (by kernel_rfl)).symm.trans h0_) (by decide), fun h0_ h1_ => (blk_alloc (Q_Z6 h0_ h1_) _), fun _ _ => (heap_alloc_new w' _), Q_X6_, Q_X7_, fun _ => rfl, fun h0_ => absurd ((hoff 13 (by kernel_rfl)).symm.trans h0_) (by decide)⟩
                refine steps_cons ?_ ?_
                · rintro b a w' ⟨z6_, z12_, A7_, c7_, A13_, c13_, m6_, m7_, m12_, m13_, ha, Q_HB, Q_HK, Q_B0, Q_B1, Q_B2, Q_R0, Q_D0, Q_D1, Q_AP1, Q_T0, Q_T1, Q_Z6, Q_Z12, Q_X6_, Q_X7_, Q_X12_, Q_X13_⟩ hb_ hon hoff
                  refine ⟨_, rfl, fun K hK => ?_⟩
                  have e55 : a.tmps[55]? = some (.slice At t.length ct) := by rw [ha]; exact putSel_on (e := (11, 55, .slice At t.length ct)) 3 rfl rfl (hon 11 (by kernel_rfl)) rfl
                  have e56 : a.tmps[56]? = some (m12_) := by rw [ha]; exact putSel_on (e := (12, 56, m12_)) 4 rfl rfl (hon 12 (by kernel_rfl)) rfl
                  rw [Q_X12_ (hon 12 (by kernel_rfl))] at e56
                  replace ha := Aside0.mk ha
                  have HB := Aside0.mk Q_HB
                  have HK := Aside0.mk Q_HK
                  have B0 := Aside0.mk (Q_B0 (hoff 16 (by kernel_rfl)))
                  have R0 := Aside0.mk Q_R0
                  have D1 := Aside0.mk (Q_D1 (hon 7 (by kernel_rfl)))
                  have AP1 := Aside0.mk (Q_AP1 (hon 7 (by kernel_rfl)))
                  have T0 := Aside0.mk (Q_T0 hb_)
                  have Z12 := Aside0.mk (Q_Z12 (hon 12 (by kernel_rfl)) hb_)
                  obtain ⟨A13n, c13n, w1n, hrn, hq1n, hbn, hkn, hfn⟩ := grow4 T0.out HB.out Z12.out ht6
                  refine value_ (w1 := w1n) (v := .slice A13n (t.length + 1) c13n) (by rfl) rfl (exec_append rfl (eval_of e55) (eval_of e56) hrn) ?_
                  refine hK.out _ _ ⟨z6_, z12_, A7_, c7_, A13n, c13n, m6_, m7_, m12_, (.slice A13n (t.length + 1) c13n), (by rw [ha.out]; exact putSel_upk 5 hb_ rfl rfl rfl), hbn, (HK.out.trans hkn), fun _ => (hfn _ _ _ B0.out (by decide)), fun h0_ _ => absurd ((hoff 16 (by kernel_rfl)).symm.trans h0_) (by decide), fun h0_ => absurd ((hoff 19 (by kernel_rfl)).symm.trans h0_) (by decide), (q_far4 R0.out (by decide) hfn), fun h0_ => absurd ((hon 7 (by kernel_rfl)).symm.trans h0_) (by decide), fun _ => (q_far4 D1.out (by decide) hfn), Q_AP1, fun h0_ => absurd ((up_self b 13).symm.trans h0_) (by decide), fun _ => hq1n, fun _ h1_ => absurd ((hon 7 (by kernel_rfl)).symm.trans h1_) (by decide), fun _ h1_ => absurd ((up_self b 13).symm.trans h1_) (by decide), Q_X6_, Q_X7_, Q_X12_, fun _ => rfl⟩
                refine steps_cons ?_ ?_
                · rintro b a w' ⟨z6_, z12_, A7_, c7_, A13_, c13_, m6_, m7_, m12_, m13_, ha, Q_HB, Q_HK, Q_B0, Q_B1, Q_B2, Q_R0, Q_D0, Q_D1, Q_AP1, Q_T0, Q_T1, Q_Z6, Q_Z12, Q_X6_, Q_X7_, Q_X12_, Q_X13_⟩ hb_ hon hoff
                  refine ⟨_, rfl, fun K hK => ?_⟩
                  have e44 : a.tmps[44]? = some (.pointer (some ⟨g, 0, none⟩)) := by rw [ha]; exact (putSel_off rfl).trans rfl
                  replace ha := Aside0.mk ha
                  have HB := Aside0.mk Q_HB
                  have HK := Aside0.mk Q_HK
                  have B0 := Aside0.mk (Q_B0 (hoff 16 (by kernel_rfl)))
                  have R0 := Aside0.mk Q_R0
                  have D1 := Aside0.mk (Q_D1 (hon 7 (by kernel_rfl)))
                  have AP1 := Aside0.mk (Q_AP1 (hon 7 (by kernel_rfl)))
                  have T1 := Aside0.mk (Q_T1 (hon 13 (by kernel_rfl)))
                  refine value_ (w1 := w') (v := .pointer (some ⟨g, 0, none⟩)) (by rfl) rfl ?_ ?_
                  · go_simp
                    (try simp only [i64_w])
                    try rfl
                  refine hK.out _ _ ⟨z6_, z12_, A7_, c7_, A13_, c13_, m6_, m7_, m12_, m13_, (by rw [ha.out]; exact putSel_upk 6 hb_ rfl rfl rfl), Q_HB, Q_HK, Q_B0, fun h0_ _ => absurd ((hoff 16 (by kernel_rfl)).symm.trans h0_) (by decide), fun h0_ => absurd ((hoff 19 (by kernel_rfl)).symm.trans h0_) (by decide), Q_R0, fun h0_ => absurd ((hon 7 (by kernel_rfl)).symm.trans h0_) (by decide), Q_D1, Q_AP1, fun h0_ => absurd ((hon 13 (by kernel_rfl)).symm.trans h0_) (by decide), Q_T1, fun _ h1_ => absurd ((hon 7 (by kernel_rfl)).symm.trans h1_) (by decide), fun _ h1_ => absurd ((hon 13 (by kernel_rfl)).symm.trans h1_) (by decide), Q_X6_, Q_X7_, Q_X12_, Q_X13_⟩
                refine steps_cons ?_ ?_
                · rintro b a w' ⟨z6_, z12_, A7_, c7_, A13_, c13_, m6_, m7_, m12_, m13_, ha, Q_HB, Q_HK, Q_B0, Q_B1, Q_B2, Q_R0, Q_D0, Q_D1, Q_AP1, Q_T0, Q_T1, Q_Z6, Q_Z12, Q_X6_, Q_X7_, Q_X12_, Q_X13_⟩ hb_ hon hoff
                  refine ⟨_, rfl, fun K hK => ?_⟩
                  have e58 : a.tmps[58]? = some (.pointer (some ⟨g, 0, none⟩)) := by rw [ha]; exact putSel_on (e := (14, 58, .pointer (some ⟨g, 0, none⟩))) 6 rfl rfl (hon 14 (by kernel_rfl)) rfl
                  replace ha := Aside0.mk ha
                  have HB := Aside0.mk Q_HB
                  have HK := Aside0.mk Q_HK
                  have B0 := Aside0.mk (Q_B0 (hoff 16 (by kernel_rfl)))
                  have R0 := Aside0.mk Q_R0
                  have D1 := Aside0.mk (Q_D1 (hon 7 (by kernel_rfl)))
                  have AP1 := Aside0.mk (Q_AP1 (hon 7 (by kernel_rfl)))
                  have T1 := Aside0.mk (Q_T1 (hon 13 (by kernel_rfl)))
                  refine value_ (w1 := w') (v := .pointer (some ⟨g, 3, none⟩)) (by rfl) rfl ?_ ?_
                  · go_simp
                    (try simp only [i64_w])
                    try rfl
                  refine hK.out _ _ ⟨z6_, z12_, A7_, c7_, A13_, c13_, m6_, m7_, m12_, m13_, (by rw [ha.out]; exact putSel_upk 7 hb_ rfl rfl rfl), Q_HB, Q_HK, Q_B0, fun h0_ _ => absurd ((hoff 16 (by kernel_rfl)).symm.trans h0_) (by decide), fun h0_ => absurd ((hoff 19 (by kernel_rfl)).symm.trans h0_) (by decide), Q_R0, fun h0_ => absurd ((hon 7 (by kernel_rfl)).symm.trans h0_) (by decide), Q_D1, Q_AP1, fun h0_ => absurd ((hon 13 (by kernel_rfl)).symm.trans h0_) (by decide), Q_T1, fun _ h1_ => absurd ((hon 7 (by kernel_rfl)).symm.trans h1_) (by decide), fun _ h1_ => absurd ((hon 13 (by kernel_rfl)).symm.trans h1_) (by decide), Q_X6_, Q_X7_, Q_X12_, Q_X13_⟩
                refine steps_cons ?_ ?_
                · rintro b a w' ⟨z6_, z12_, A7_, c7_, A13_, c13_, m6_, m7_, m12_, m13_, ha, Q_HB, Q_HK, Q_B0, Q_B1, Q_B2, Q_R0, Q_D0, Q_D1, Q_AP1, Q_T0, Q_T1, Q_Z6, Q_Z12, Q_X6_, Q_X7_, Q_X12_, Q_X13_⟩ hb_ hon hoff
                  refine ⟨_, rfl, fun K hK => ?_⟩
                  have e59 : a.tmps[59]? = some (.pointer (some ⟨g, 3, none⟩)) := by rw [ha]; exact putSel_on (e := (15, 59, .pointer (some ⟨g, 3, none⟩))) 7 rfl rfl (hon 15 (by kernel_rfl)) rfl
                  have e51 : a.tmps[51]? = some (m7_) := by rw [ha]; exact putSel_on (e := (7, 51, m7_)) 2 rfl rfl (hon 7 (by kernel_rfl)) rfl
                  rw [Q_X7_ (hon 7 (by kernel_rfl))] at e51
                  replace ha := Aside0.mk ha
                  have HB := Aside0.mk Q_HB
                  have HK := Aside0.mk Q_HK
                  have B0 := Aside0.mk (Q_B0 hb_)
                  have R0 := Aside0.mk Q_R0
                  have D1 := Aside0.mk (Q_D1 (hon 7 (by kernel_rfl)))
                  have AP1 := Aside0.mk (Q_AP1 (hon 7 (by kernel_rfl)))
                  have T1 := Aside0.mk (Q_T1 (hon 13 (by kernel_rfl)))
                  have hc_ := blk_cell B0.out 3
                  have hf_ := blk_frozen B0.out 3
                  refine skip_ (w1 := w'.setCell ⟨g, 3, none⟩ (.slice A7_ (d.length + 1) c7_)) (by rfl) rfl ?_ ?_
                  · go_simp
                  refine hK.out _ _ ⟨z6_, z12_, A7_, c7_, A13_, c13_, m6_, m7_, m12_, m13_, (by rw [ha.out]; exact putSel_none (v := undef) rfl), (HB.out.setCell (p := ⟨g, 3, none⟩) HG.out _), (HK.out.trans (Keep.set (o := 3) B0.out (.inr (.inr rfl)))), fun h0_ => absurd ((up_self b 16).symm.trans h0_) (by decide), fun _ _ => (box_set3 B0.out _), fun h0_ => absurd ((hoff 19 (by kernel_rfl)).symm.trans h0_) (by decide), (q_set R0.out B0.out (by decide)), fun h0_ => absurd ((hon 7 (by kernel_rfl)).symm.trans h0_) (by decide), fun _ => (q_set D1.out B0.out (by decide)), Q_AP1, fun h0_ => absurd ((hon 13 (by kernel_rfl)).symm.trans h0_) (by decide), fun _ => (q_set T1.out B0.out (by decide)), fun _ h1_ => absurd ((hon 7 (by kernel_rfl)).symm.trans h1_) (by decide), fun _ h1_ => absurd ((hon 13 (by kernel_rfl)).symm.trans h1_) (by decide), Q_X6_, Q_X7_, Q_X12_, Q_X13_⟩
                refine steps_cons ?_ ?_
                · rintro b a w' ⟨z6_, z12_, A7_, c7_, A13_, c13_, m6_, m7_, m12_, m13_, ha, Q_HB, Q_HK, Q_B0, Q_B1, Q_B2, Q_R0, Q_D0, Q_D1, Q_AP1, Q_T0, Q_T1, Q_Z6, Q_Z12, Q_X6_, Q_X7_, Q_X12_, Q_X13_⟩ hb_ hon hoff
                  refine ⟨_, rfl, fun K hK => ?_⟩
                  have e45 : a.tmps[45]? = some (.pointer (some ⟨g, 0, none⟩)) := by rw [ha]; exact (putSel_off rfl).trans rfl
                  replace ha := Aside0.mk ha
                  have HB := Aside0.mk Q_HB
                  have HK := Aside0.mk Q_HK
                  have B1 := Aside0.mk (Q_B1 (hon 16 (by kernel_rfl)) (hoff 19 (by kernel_rfl)))
                  have R0 := Aside0.mk Q_R0
                  have D1 := Aside0.mk (Q_D1 (hon 7 (by kernel_rfl)))
                  have AP1 := Aside0.mk (Q_AP1 (hon 7 (by kernel_rfl)))
                  have T1 := Aside0.mk (Q_T1 (hon 13 (by kernel_rfl)))
                  refine value_ (w1 := w') (v := .pointer (some ⟨g, 0, none⟩)) (by rfl) rfl ?_ ?_
                  · go_simp
                    (try simp only [i64_w])
                    try rfl
                  refine hK.out _ _ ⟨z6_, z12_, A7_, c7_, A13_, c13_, m6_, m7_, m12_, m13_, (by rw [ha.out]; exact putSel_upk 8 hb_ rfl rfl rfl), Q_HB, Q_HK, fun h0_ => absurd ((hon 16 (by kernel_rfl)).symm.trans h0_) (by decide), Q_B1, fun h0_ => absurd ((hoff 19 (by kernel_rfl)).symm.trans h0_) (by decide), Q_R0, fun h0_ => absurd ((hon 7 (by kernel_rfl)).symm.trans h0_) (by decide), Q_D1, Q_AP1, fun h0_ => absurd ((hon 13 (by kernel_rfl)).symm.trans h0_) (by decide), Q_T1, fun _ h1_ => absurd ((hon 7 (by kernel_rfl)).symm.trans h1_) (by decide), fun _ h1_ => absurd ((hon 13 (by kernel_rfl)).symm.trans h1_) (by decide), Q_X6_, Q_X7_, Q_X12_, Q_X13_⟩
                refine steps_cons ?_ ?_
                · rintro b a w' ⟨z6_, z12_, A7_, c7_, A13_, c13_, m6_, m7_, m12_, m13_, ha, Q_HB, Q_HK, Q_B0, Q_B1, Q_B2, Q_R0, Q_D0, Q_D1, Q_AP1, Q_T0, Q_T1, Q_Z6, Q_Z12, Q_X6_, Q_X7_, Q_X12_, Q_X13_⟩ hb_ hon hoff
                  refine ⟨_, rfl, fun K hK => ?_⟩
                  have e60 : a.tmps[60]? = some (.pointer (some ⟨g, 0, none⟩)) := by rw [ha]; exact putSel_on (e := (17, 60, .pointer (some ⟨g, 0, none⟩))) 8 rfl rfl (hon 17 (by kernel_rfl)) rfl
                  replace ha := Aside0.mk ha
                  have HB := Aside0.mk Q_HB
                  have HK := Aside0.mk Q_HK
                  have B1 := Aside0.mk (Q_B1 (hon 16 (by kernel_rfl)) (hoff 19 (by kernel_rfl)))
                  have R0 := Aside0.mk Q_R0
                  have D1 := Aside0.mk (Q_D1 (hon 7 (by kernel_rfl)))
                  have AP1 := Aside0.mk (Q_AP1 (hon 7 (by kernel_rfl)))
                  have T1 := Aside0.mk (Q_T1 (hon 13 (by kernel_rfl)))
                  refine value_ (w1 := w') (v := .pointer (some ⟨g, 4, none⟩)) (by rfl) rfl ?_ ?_
                  · go_simp
                    (try simp only [i64_w])
                    try rfl
                  refine hK.out _ _ ⟨z6_, z12_, A7_, c7_, A13_, c13_, m6_, m7_, m12_, m13_, (by rw [ha.out]; exact putSel_upk 9 hb_ rfl rfl rfl), Q_HB, Q_HK, fun h0_ => absurd ((hon 16 (by kernel_rfl)).symm.trans h0_) (by decide), Q_B1, fun h0_ => absurd ((hoff 19 (by kernel_rfl)).symm.trans h0_) (by decide), Q_R0, fun h0_ => absurd ((hon 7 (by kernel_rfl)).symm.trans h0_) (by decide), Q_D1, Q_AP1, fun h0_ => absurd ((hon 13 (by kernel_rfl)).symm.trans h0_) (by decide), Q_T1, fun _ h1_ => absurd ((hon 7 (by kernel_rfl)).symm.trans h1_) (by decide), fun _ h1_ => absurd ((hon 13 (by kernel_rfl)).symm.trans h1_) (by decide), Q_X6_, Q_X7_, Q_X12_, Q_X13_⟩
                refine steps_cons ?_ ?_
                · rintro b a w' ⟨z6_, z12_, A7_, c7_, A13_, c13_, m6_, m7_, m12_, m13_, ha, Q_HB, Q_HK, Q_B0, Q_B1, Q_B2, Q_R0, Q_D0, Q_D1, Q_AP1, Q_T0, Q_T1, Q_Z6, Q_Z12, Q_X6_, Q_X7_, Q_X12_, Q_X13_⟩ hb_ hon hoff
                  refine ⟨_, rfl, fun K hK => ?_⟩
                  have e61 : a.tmps[61]? = some (.pointer (some ⟨g, 4, none⟩)) := by rw [ha]; exact putSel_on (e := (18, 61, .pointer (some ⟨g, 4, none⟩))) 9 rfl rfl (hon 18 (by kernel_rfl)) rfl
                  have e57 : a.tmps[57]? = some (m13_) := by rw [ha]; exact putSel_on (e := (13, 57, m13_)) 5 rfl rfl (hon 13 (by kernel_rfl)) rfl
                  rw [Q_X13_ (hon 13 (by kernel_rfl))] at e57
                  replace ha := Aside0.mk ha
                  have HB := Aside0.mk Q_HB
                  have HK := Aside0.mk Q_HK
                  have B1 := Aside0.mk (Q_B1 (hon 16 (by kernel_rfl)) hb_)
                  have R0 := Aside0.mk Q_R0
                  have D1 := Aside0.mk (Q_D1 (hon 7 (by kernel_rfl)))
                  have AP1 := Aside0.mk (Q_AP1 (hon 7 (by kernel_rfl)))
                  have T1 := Aside0.mk (Q_T1 (hon 13 (by kernel_rfl)))
                  have hc_ := blk_cell B1.out 4
                  have hf_ := blk_frozen B1.out 4
                  refine skip_ (w1 := w'.setCell ⟨g, 4, none⟩ (.slice A13_ (t.length + 1) c13_)) (by rfl) rfl ?_ ?_
                  · go_simp
                  refine hK.out _ _ ⟨z6_, z12_, A7_, c7_, A13_, c13_, m6_, m7_, m12_, m13_, (by rw [ha.out]; exact putSel_none (v := undef) rfl), (HB.out.setCell (p := ⟨g, 4, none⟩) HG.out _), (HK.out.trans (Keep.set (o := 4) B1.out (.inr (.inr rfl)))), fun h0_ => absurd ((hon 16 (by kernel_rfl)).symm.trans h0_) (by decide), fun _ h1_ => absurd ((up_self b 19).symm.trans h1_) (by decide), fun _ => (box_set4 B1.out _), (q_set R0.out B1.out (by decide)), fun h0_ => absurd ((hon 7 (by kernel_rfl)).symm.trans h0_) (by decide), fun _ => (q_set D1.out B1.out (by decide)), Q_AP1, fun h0_ => absurd ((hon 13 (by kernel_rfl)).symm.trans h0_) (by decide), fun _ => (q_set T1.out B1.out (by decide)), fun _ h1_ => absurd ((hon 7 (by kernel_rfl)).symm.trans h1_) (by decide), fun _ h1_ => absurd ((hon 13 (by kernel_rfl)).symm.trans h1_) (by decide), Q_X6_, Q_X7_, Q_X12_, Q_X13_⟩
                exact steps_nil
              rintro b a wE hall ⟨z6_, z12_, A7_, c7_, A13_, c13_, m6_, m7_, m12_, m13_, ha, Q_HB, Q_HK, Q_B0, Q_B1, Q_B2, Q_R0, Q_D0, Q_D1, Q_AP1, Q_T0, Q_T1, Q_Z6, Q_Z12, Q_X6_, Q_X7_, Q_X12_, Q_X13_⟩
              clear B0 D0 HB HK R0 T0
              have hb5_ := hall 5 (by kernel_rfl)
              have hb6_ := hall 6 (by kernel_rfl)
              have hb7_ := hall 7 (by kernel_rfl)
              have hb11_ := hall 11 (by kernel_rfl)
              have hb12_ := hall 12 (by kernel_rfl)
              have hb13_ := hall 13 (by kernel_rfl)
              have hb14_ := hall 14 (by kernel_rfl)
              have hb15_ := hall 15 (by kernel_rfl)
              have hb16_ := hall 16 (by kernel_rfl)
              have hb17_ := hall 17 (by kernel_rfl)
              have hb18_ := hall 18 (by kernel_rfl)
              have hb19_ := hall 19 (by kernel_rfl)
              subst ha
              obtain rfl := Q_X6_ hb6_
              obtain rfl := Q_X7_ hb7_
              obtain rfl := Q_X12_ hb12_
              obtain rfl := Q_X13_ hb13_
              simp only [putSel, hb5_, hb6_, hb7_, hb11_, hb12_, hb13_, hb14_, hb15_, hb16_, hb17_, hb18_, hb19_, if_true, Act.put, List.setIfInBounds_toArray, List.set_cons_zero, List.set_cons_succ]
              have HB := Aside0.mk Q_HB
              clear Q_HB
              have HK := Aside0.mk Q_HK
              clear Q_HK
              clear Q_B0
              clear Q_B1
              have B2 := Aside0.mk (Q_B2 hb19_)
              clear Q_B2
              have R0 := Aside0.mk Q_R0
              clear Q_R0
              clear Q_D0
              have D1 := Aside0.mk (Q_D1 hb7_)
              clear Q_D1
              have AP1 := Aside0.mk (Q_AP1 hb7_)
              clear Q_AP1
              clear Q_T0
              have T1 := Aside0.mk (Q_T1 hb13_)
              clear Q_T1
              clear Q_Z6
              clear Q_Z12
              clear hall hb5_ hb6_ hb7_ hb11_ hb12_ hb13_ hb14_ hb15_ hb16_ hb17_ hb18_ hb19_
              go_wp2
              go_roundg n2
              case measure => omega
              case rel => exact grow_next B2.out HG.out R0.out D1.out T1.out AP1.out HDL.out HDN.out (by omega) HE1.out HE2.out HB.out (HKW.out.trans ((show Keep wr wS from by rw [← HWS.out]; exact ⟨Nat.le_refl _, fun _ _ _ h _ _ _ => h⟩).trans HK.out))
            · have dle : decide (d.length ≤ a) = false := decide_eq_false hle
              have had : a < d.length := by omega
              have hat2 : a < t.length := by have := HDL.out; omega
              obtain ⟨hdE, htE⟩ := grow_end HDL.out had HE1.out HE2.out
              have HDE := Aside0.mk hdE
              have HTE := Aside0.mk htE
              clear hdE htE
              obtain ⟨gt, ot, cst, hAt, hbt, hbt0, hct⟩ := q_form HROWS.out.t (by omega)
              obtain ⟨gd, od, csd, hAd, hbd, hbd0, hcd⟩ := q_form HROWS.out.d (by omega)
              subst hAt
              subst hAd
              obtain ⟨b, hbv⟩ : ∃ b, t.getD a false = b := ⟨_, rfl⟩
              have ct_ := hct a (.bool b) (by rw [bls_at t a hat2, hbv])
              have cd_ := hcd a (.int .u8 (d.getD a 0)) (by unfold u8s; simp [List.getD, had])
              have HBV := Aside0.mk hbv
              have HBT := Aside0.mk hbt
              have HBD := Aside0.mk hbd
              clear hct hcd hbv hbt hbd
              have c4 := blk_cell HBOX.out 4
              cases b
              · go_wp2
                have fd_ := blk_frozen HBD.out (od + a)
                have ft_ := blk_frozen HBT.out (ot + a)
                have hgdt : gd ≠ gt := blk_ne HBD.out HBT.out (by decide)
                go_region
                all_goals
                  (try simp only [Act.put, List.setIfInBounds_toArray, List.set_cons_zero, List.set_cons_succ])
                  go_wp2
                  go_roundg n
                  case measure => omega
                  case rel =>
                    have e1 : inN off win s (da, th, 0) (k + 1) = (d.set a (bt s k), t.set a true, (inN off win s (da, th, 0) k).2.2 + 1) := by
                      have h8 := inS_new (c := bt s k) HIN.out HA.out (show (ext (inN off win s (da, th, 0) k).2.1 false (a + 1)).getD a false = false from by rw [← HTE.out]; exact HBV.out)
                      rw [← HTE.out, ← HDE.out] at h8
                      exact h8
                    obtain ⟨p1, p2⟩ := put_keep (od := od) (ot := ot) (a := a) (c := ((s[k]'hlt).toNat : Int)) HKW.out HBW.out hbd0 hbt0 HBD.out HBT.out
                    exact in_next hk rfl (by rw [e1]; rfl) hmk (by rw [e1, bt_at s k hlt]; exact put_buf HBOX.out HG.out HROWS.out HBD.out HBT.out had hat2 _) p1 p2
              · go_wp2
                go_roundg n
                case measure => omega
                case rel =>
                  have e1 : inN off win s (da, th, 0) (k + 1) = (d, t, (inN off win s (da, th, 0) k).2.2) := by
                    have h8 := inS_old (c := bt s k) HIN.out HA.out (show (ext (inN off win s (da, th, 0) k).2.1 false (a + 1)).getD a false = true from by rw [← HTE.out]; exact HBV.out)
                    rw [← HTE.out, ← HDE.out] at h8
                    exact h8
                  exact in_next hk rfl (by rw [e1]) hmk (by rw [e1]; exact ⟨_, _, _, HBOX.out, HG.out, HROWS.out⟩) HBW.out HKW.out
    · obtain rfl : k = s.size := by omega
      go_wp2_with (go_at_call 34; (with_reducible refine (move_calls HBUF2.out HB2.out (HLEN.out _).1 (by omega) (by have := (HLEN.out s.size).2; omega) hn).mono ?_); rintro e' w5 ⟨rfl, hbuf5, hb5, hk5⟩; have HB5 := Aside0.mk hb5; have HK5 := Aside0.mk hk5; have HBF5 := Aside0.mk hbuf5; clear hb5 hk5 hbuf5)
      go_ret2
      exact ⟨rfl, HBF5.out, HB5.out, HK2.out.trans HK5.out⟩
end Go.Proofs.Ytcllcjflgeiehaa.PRecvPlays
