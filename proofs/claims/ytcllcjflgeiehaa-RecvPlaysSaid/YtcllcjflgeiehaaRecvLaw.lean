/- Proved: the law RecvPlays returns true at every input. -/
import Derived.Test.YtcllcjflgeiehaaRecvStep
import Derived.Test.YtcllcjflgeiehaaRecvFact
import Derived.Test.YtcllcjflgeiehaaRecvRead
import Derived.Deep.DeepCutAuto
import Derived.BigRegion
namespace Go.Proofs.Ytcllcjflgeiehaa.PRecvPlays
open Go.RowKit Go.Proofs.YtcllcjflgeiehaaW.PrintWords Go.Proofs.YtcllcjflgeiehaaW.PrintLast Go.Proofs.YtcllcjflgeiehaaW.PrintMore
set_option linter.unusedVariables false
set_option linter.unusedSimpArgs false
def Ref (w wr : World) (z : Nat) (f room : Int) (D : List Int) (R : Int) : Prop := ∃ A c, wr.heap[z]? = some (.cells #[.int .u32 f, .int .i64 room, .slice A D.length c, .int .i64 R] 32 (0, 0)) ∧ w.heap.size ≤ z ∧ D.length ≤ c ∧ Kd.R (Kd.int .i64) 3 wr w.heap.size (fun _ => True) (.slice A D.length c) D
theorem Ref.keep {w wr w2 : World} {z : Nat} {f room : Int} {D : List Int} {R : Int} (h : Ref w wr z f room D R) (hk : Keep wr w2) : Ref w w2 z f room D R := by
  obtain ⟨A, c, hz, hle, hc, hr⟩ := h
  refine ⟨A, c, hk.2 _ _ _ hz (by decide) (by decide) (by decide), hle, hc, Kd.R_mono (Kd.R_move (Kd.R_bound hr) (fun k hq => ?_)) (fun _ hq => hq.1)⟩
  obtain ⟨_, _, _, q, hq2, cs, hcs⟩ := hq
  obtain rfl : q = 3 := by simpa [Kd.int, Kd.scalar] using hq2
  exact (hk.2 _ _ _ hcs (by decide) (by decide) (by decide)).trans hcs.symm
/-- What In left: the reference has not stored yet. -/
def AfterIn (w wx : World) (g z : Nat) (f room frm : Int) (s : ByteArray) (p da : List Int) (th : List Bool) (R : Nat) (v1 v2 : Value) : Prop := ∃ (n e : Int) (p' da' : List Int) (th' : List Bool), v1 = .int .i64 n ∧ v2 = .int .i64 e ∧ Inv p' da' th' R ∧ Buf w.heap.size wx g ((f + p'.length) % 4294967296) room (p'.drop R) da' th' ∧ Ref w wx z f room (p ++ mk da th) R ∧ Below w.heap.size w wx ∧
  ((4096 < s.size ∧ n = 0 ∧ e = 2 ∧ p' = p ∧ da' = da ∧ th' = th) ∨ (s.size ≤ 4096 ∧ e = 0 ∧ patchbayref3_Recv_In.f 1000000 f room (p ++ mk da th) R frm s = some (f, room, p' ++ mk da' th', (R : Int), n)))
/-- Both agree. -/
def Both (w wx : World) (g z : Nat) (f room : Int) : Prop := ∃ (p da : List Int) (th : List Bool) (R : Nat), Inv p da th R ∧ Buf w.heap.size wx g ((f + p.length) % 4294967296) room (p.drop R) da th ∧ Ref w wx z f room (p ++ mk da th) R ∧ Below w.heap.size w wx
/-- What Read left. -/
def AfterRead (w wx : World) (g z : Nat) (f room m : Int) (p da : List Int) (th : List Bool) (R : Nat) (v1 v2 : Value) : Prop := ∃ (t : ByteArray) (e : Int) (R' : Nat), v1 = .string t ∧ v2 = .int .i64 e ∧ Inv p da th R' ∧ Buf w.heap.size wx g ((f + p.length) % 4294967296) room (p.drop R') da th ∧ Ref w wx z f room (p ++ mk da th) R ∧ Below w.heap.size w wx ∧
  ((m < 0 ∧ t = ⟨#[]⟩ ∧ e = 1 ∧ R' = R) ∨ (0 ≤ m ∧ e = 0 ∧ patchbayref3_Recv_Take.f 1000000 f room (p ++ mk da th) R m = some (f, room, p ++ mk da th, (R' : Int), t)))
theorem Ref.below {w wr w2 : World} {z : Nat} {f room : Int} {D : List Int} {R : Int} (h : Ref w wr z f room D R) (hb : Below wr.heap.size wr w2) : Ref w w2 z f room D R := h.keep (Keep.below hb)
theorem buf_set {B : Nat} {W : World} {g z : Nat} {nx room : Int} {rd da : List Int} {th : List Bool} {cs : Array Value} (h : Buf B W g nx room rd da th) (hz : W.heap[z]? = some (.cells cs 32 (0, 0))) (o : Nat) (v : Value) : Buf B (W.setCell ⟨z, o, none⟩ v) g nx room rd da th := by
  obtain ⟨vr, vd, vt, hbox, hg, hr⟩ := h
  have hne : g ≠ z := fun e => by
    subst e
    have hb2 : W.heap[g]? = some (.cells #[.int .u32 nx, .int .i64 room, vr, vd, vt] 71 (0, 0)) := hbox
    rw [hb2] at hz
    injection hz with hz
    injection hz with _ ht
    exact absurd ht (by decide)
  exact ⟨vr, vd, vt, (Below.heap_setCell W ⟨z, o, none⟩ v g hne).trans hbox, hg, q_set hr.r hz (by decide), q_set hr.d hz (by decide), q_set hr.t hz (by decide), hr.ap⟩
theorem put4 {w1 W : World} {g z c : Nat} {nx room f R x0 x1 x3 : Int} {x2 : Value} {rd da D : List Int} {th : List Bool} {A : Option Addr} (h : Buf w1.heap.size W g nx room rd da th) (hz : W.heap[z]? = some (.cells #[.int .u32 x0, .int .i64 x1, x2, .int .i64 x3] 32 (0, 0))) (hzw : w1.heap.size ≤ z) (hc : D.length ≤ c)
    (hr : Kd.R (Kd.int .i64) 3 W w1.heap.size (fun _ => True) (.slice A D.length c) D) (hb : Below w1.heap.size w1 W) :
    Buf w1.heap.size ((((W.setCell ⟨z, 0, none⟩ (.int .u32 f)).setCell ⟨z, 1, none⟩ (.int .i64 room)).setCell ⟨z, 2, none⟩ (.slice A D.length c)).setCell ⟨z, 3, none⟩ (.int .i64 R)) g nx room rd da th ∧
    Ref w1 ((((W.setCell ⟨z, 0, none⟩ (.int .u32 f)).setCell ⟨z, 1, none⟩ (.int .i64 room)).setCell ⟨z, 2, none⟩ (.slice A D.length c)).setCell ⟨z, 3, none⟩ (.int .i64 R)) z f room D R ∧
    Below w1.heap.size w1 ((((W.setCell ⟨z, 0, none⟩ (.int .u32 f)).setCell ⟨z, 1, none⟩ (.int .i64 room)).setCell ⟨z, 2, none⟩ (.slice A D.length c)).setCell ⟨z, 3, none⟩ (.int .i64 R)) := by
  have h0 := blk_set hz 0 (.int .u32 f)
  have h1 := blk_set h0 1 (.int .i64 room)
  have h2 := blk_set h1 2 (.slice A D.length c)
  have h3 := blk_set h2 3 (.int .i64 R)
  have hq : ∀ q, q ∈ (3 : Nat) :: (Kd.int .i64).E → q ≠ 32 := by intro q hq; obtain rfl : q = 3 := by simpa [Kd.int, Kd.scalar] using hq
                                                                 decide
  exact ⟨buf_set (buf_set (buf_set (buf_set h hz 0 _) h0 1 _) h1 2 _) h2 3 _, ⟨A, c, h3, hzw, hc, Kd.R_set (Kd.R_set (Kd.R_set (Kd.R_set hr hz hq 0 _) h0 hq 1 _) h1 hq 2 _) h2 hq 3 _⟩,
    (((hb.setCell (p := ⟨z, 0, none⟩) hzw _).setCell (p := ⟨z, 1, none⟩) hzw _).setCell (p := ⟨z, 2, none⟩) hzw _).setCell (p := ⟨z, 3, none⟩) hzw _⟩
theorem take_after {w1 W W2 : World} {g z B : Nat} {nx room : Int} {rd da D : List Int} {th : List Bool} {v : Value} {cs : Array Value} {ok : Nat → Prop} (h : Buf B W g nx room rd da th) (hz : W.heap[z]? = some (.cells cs 32 (0, 0))) (hr : Kd.R (Kd.int .i64) 3 W w1.heap.size ok v D) (hk : Kept W W2 (fun k => some k = v.ownBlock)) :
    Buf B W2 g nx room rd da th ∧ W2.heap[z]? = some (.cells cs 32 (0, 0)) := by
  obtain ⟨vr, vd, vt, hbox, hg, hrw⟩ := h
  have key : ∀ (k t : Nat) (cs' : Array Value), W.heap[k]? = some (.cells cs' t (0, 0)) → 3 ≠ t → W2.heap[k]? = some (.cells cs' t (0, 0)) := fun k t cs' hc ht => (hk.2 k (blk_lt hc) (Kd.R_ne hr hc ht)).trans hc
  have kq : ∀ (e n : Nat) (q : Value) (xs : List Value), QRow W B e 1 q n xs → 3 ≠ e → QRow W2 B e 1 q n xs := fun e n q xs hq he => q_move hq (fun k hk2 => by
    obtain ⟨_, c', hc'⟩ := q_typed hq k hk2
    rw [hc']
    exact key k e c' hc' he)
  exact ⟨⟨vr, vd, vt, key g 71 _ hbox (by decide), hg, kq 5 _ _ _ hrw.r (by decide), kq 5 _ _ _ hrw.d (by decide), kq 4 _ _ _ hrw.t (by decide), hrw.ap⟩, key z 32 _ hz (by decide)⟩
def law.T27 : Bool × List (List Nat × List Nat) := (true, [([], []), ([], []), ([], []), ([1, 2], [1, 2]), ([3], [3]), ([0, 4], [0, 4]), ([5], [5]), ([6], [6]), ([6], [6]), ([7, 5, 0, 1, 2, 3, 4, 5, 6, 7], [7]), ([8, 9, 0, 1, 2, 3, 4, 5, 6, 7, 8, 9], [8])])
def law.B27 : List Nat := [0, 0, 0, 6, 14, 31, 63, 127, 127, 255, 1023]
theorem law.tab27 : rtab .any (opsOf Try.f3 27) = law.T27 := by kernel_rfl
theorem law.bits27 : waitsOk law.T27.2 law.B27 = true := by kernel_rfl
theorem bcells_at : ∀ (l : List S74) (j : Nat) (b : S74), l[j]? = some b → (bcells l)[j * 2 + 0]? = some (.int .u32 b.f0) ∧ (bcells l)[j * 2 + 1]? = some (.int .u32 b.f1)
  | [], j, b, h => by simp at h
  | x :: l, 0, b, h => by
    obtain rfl : x = b := by simpa using h
    exact ⟨rfl, rfl⟩
  | x :: l, j + 1, b, h => by
    obtain ⟨h0, h1⟩ := bcells_at l j b (by simpa using h)
    rw [show (j + 1) * 2 + 0 = (j * 2 + 0) + 2 from by omega, show (j + 1) * 2 + 1 = (j * 2 + 1) + 2 from by omega]
    exact ⟨h0, h1⟩
theorem c74_of_q {w : World} {B c : Nat} {A : Option Addr} {l : List S74} (h : QRow w B 74 2 (.slice A l.length c) l.length (bcells l)) : Kd.C k74 w A l.length l := by
  refine ⟨rfl, q_max h, fun hn => ?_⟩
  obtain ⟨ad, rfl, hc⟩ := q_cells h hn
  refine ⟨ad, rfl, fun j p hp => ⟨[.int .u32 p.f0, .int .u32 p.f1], rfl, k74_mk w p, fun i u hu => ?_⟩⟩
  obtain ⟨h0, h1⟩ := bcells_at l j p hp
  match i, hu with
  | 0, hu => exact hc _ _ (h0.trans hu)
  | 1, hu => exact hc _ _ (h1.trans hu)
def law.T30 : Bool × List (List Nat × List Nat) := (true, [([], []), ([0], [0]), ([], []), ([2, 1], [2]), ([1, 3], [1, 3]), ([4, 3], [4]), ([5], [5]), ([6, 5, 5], [5, 6]), ([5], [5]), ([8, 7, 5], [5, 8]), ([7, 9, 5], [5, 7, 9]), ([5, 10], [5, 10]), ([11, 9], [11]), ([12], [12]), ([13, 12, 12], [12, 13]), ([12], [12]), ([15, 14, 12], [12, 15]), ([12], [12]), ([17, 12], [12, 17]), ([16, 18, 12], [12, 16, 18]), ([14, 19, 12], [12, 14, 19]), ([12, 20], [12, 20]), ([21, 16], [21]), ([22], [22]), ([23, 22, 22], [22, 23]), ([22], [22]), ([25, 24, 22], [22, 25]), ([24, 26, 26, 22], [22, 24, 26]), ([27, 22], [22, 27]), ([22, 28], [22, 28])])
def law.B30 : List Nat := [0, 1, 0, 7, 15, 31, 63, 127, 63, 511, 1023, 2047, 4095, 8191, 16383, 8191, 65535, 8191, 139263, 524287, 1048575, 2097151, 4194303, 8388607, 16777215, 8388607, 67108863, 134217727, 268435455, 536870911]
theorem law.tab30 : rtab .any (opsOf Try.f3 30) = law.T30 := by kernel_rfl
theorem law.bits30 : waitsOk law.T30.2 law.B30 = true := by kernel_rfl
theorem tmod_b (x : Int) : -4999 ≤ Int.tmod x 5000 ∧ Int.tmod x 5000 ≤ 4999 := by
  have h1 := Int.tmod_lt_of_pos x (b := 5000) (by decide)
  have h2 := Int.lt_tmod_of_pos x (b := 5000) (by decide)
  omega
def RunRel (w : World) (g z : Nat) (f room : Int) (n : Nat) (i : Value) (wr : World) : Prop := ∃ (k R : Nat) (p da : List Int) (th : List Bool), i = .int .i64 (k : Int) ∧ k + n = 10 ∧ Inv p da th R ∧ Buf w.heap.size wr g ((f + p.length) % 4294967296) room (p.drop R) da th ∧ Ref w wr z f room (p ++ mk da th) R ∧ Below w.heap.size w wr
theorem in_b (n : Int) (b : Bool) (h : (1 ≤ n ∧ n ≤ 65535 ↔ b = true)) : patchbayref3_In.f n 1 65535 = some b := by
  unfold patchbayref3_In.f
  cases b with
  | true => have := h.2 rfl; rw [if_pos this.1, decide_eq_true this.2]
  | false =>
    by_cases h1 : n ≥ 1
    · rw [if_pos h1, decide_eq_false (fun h2 => absurd (h.1 ⟨h1, h2⟩) (by decide))]
    · rw [if_neg h1]
set_option maxHeartbeats 8000000 in
set_option maxRecDepth 100000 in
theorem law (f room : Int) (fs : List Int) (bs : List ByteArray) (rs : List Int) (Af Ab Ar : Option Addr) (cf cb cr : Nat) (hf : U32 f) (w : World) (hF : Kd.C (Kd.int .i64) w Af fs.length fs) (hB : Kd.C Kd.string w Ab bs.length bs) (hR : Kd.C (Kd.int .i64) w Ar rs.length rs) :
    Calls Try.prog 3 #[.int .u32 f, .int .i64 room, .slice Af fs.length cf, .slice Ab bs.length cb, .slice Ar rs.length cr] w fun e w' => e = .returned (.bool true) ∧ Below w.heap.size w w' := by
  have HF := Aside0.mk hF
  have HS := Aside0.mk hB
  have HRD := Aside0.mk hR
  have HU := Aside0.mk hf
  clear hF hB hR
  by_cases hroom : 1 ≤ room ∧ room ≤ 65535
  · have HI := Aside0.mk (in_b room true ⟨fun _ => rfl, fun _ => hroom⟩)
    go_enter Try.func3, Try.ntmps3
    go_wp2_with (first | (go_at_call 5; (with_reducible refine (fact_true _).mono ?_); rintro e' w1 ⟨rfl, hb1⟩; have HB1 := Aside0.mk hb1; clear hb1) | (go_at_call 6; (with_reducible refine (new_yes f room _ hroom).mono ?_); rintro e' w2 ⟨g, rfl, hbuf, hb⟩; have HBUF := Aside0.mk hbuf; have HB2 := Aside0.mk hb; clear hbuf hb) | (go_at_call 7; (with_reducible refine (patchbayref3_In.calls room 1 65535 true _ HI.out).mono ?_); rintro e' w3 ⟨rfl, hd3⟩; have HD3 := Aside0.mk hd3; clear hd3))
    go_loopg [14] 10 (fun n i wr => RunRel w1 g w3.heap.size f room n i wr)
    case atStart =>
      have hu := HU.out
      unfold U32 at hu
      have hb3 := HB2.out.trans (HD3.out.below.mono HB2.out.size)
      have h2 := HBUF.out.below HD3.out.below
      refine ⟨0, 0, [], [], [], rfl, by omega, ⟨rfl, (by intro x hx; cases hx), (by intro x hx; cases hx), rfl, Nat.le_refl _, by decide⟩, ?_, ⟨none, 0, heap_alloc_new _ _, hb3.size, Nat.le_refl _, Kd.R_nil _ _ _ _ _⟩, hb3.alloc hb3.size _⟩
      rw [show (f + (([] : List Int).length : Int)) % 4294967296 = f from by simp only [List.length_nil]; omega]
      exact h2.below ((Below.refl _ _).alloc (Nat.le_refl _) _)
    case round =>
      obtain ⟨k, R, p, da, th, rfl, hkn, hinv, hbuf, href, hbel⟩ := hrel
      have HINV := Aside0.mk hinv
      have HBF := Aside0.mk hbuf
      have HREF := Aside0.mk href
      have HBL := Aside0.mk hbel
      have HKN := Aside0.mk hkn
      have hk10 : k ≤ 10 := by omega
      clear hinv hbuf href hbel hkn
      have HBW := Aside0.mk (HB1.out.trans (HBL.out.mono HB1.out.size))
      by_cases hkf : k < fs.length
      · have d1 : decide ((k : Int) < (fs.length : Int)) = true := decide_eq_true (by omega)
        by_cases hkb : k < bs.length
        · have d2 : decide ((k : Int) < (bs.length : Int)) = true := decide_eq_true (by omega)
          by_cases hkr : k < rs.length
          · have d3 : decide ((k : Int) < (rs.length : Int)) = true := decide_eq_true (by omega)
            by_cases hk : k < 10
            · have d4 : decide ((k : Int) < 10) = true := decide_eq_true (by omega)
              obtain ⟨adf, ef, cf1⟩ := Kd.at_int (Kd.C_below HF.out HBW.out) (k : Int) (by omega) (by omega)
              obtain ⟨adb, eb, cb1⟩ := Kd.at_string (Kd.C_below HS.out HBW.out) (k : Int) (by omega) (by omega)
              obtain ⟨adr, er, cr1⟩ := Kd.at_int (Kd.C_below HRD.out HBW.out) (k : Int) (by omega) (by omega)
              subst ef eb er
              rw [Int.toNat_natCast] at cf1 cb1 cr1
              obtain ⟨fr, hfr⟩ : ∃ x, Int.tmod (rd fs k) 5000 = x := ⟨_, rfl⟩
              obtain ⟨s, hs⟩ : ∃ x, rdOf ByteArray.empty bs k = x := ⟨_, rfl⟩
              obtain ⟨m, hm⟩ : ∃ x, rd rs k = x := ⟨_, rfl⟩
              have hfb : -4999 ≤ fr ∧ fr ≤ 4999 := by rw [← hfr]; exact tmod_b _
              have hu := HU.out
              unfold U32 at hu
              have HRO := Aside0.mk (show patchbayref3_Round.f (f + fr) = some ((f + fr) % 4294967296) from round_v _ (by omega))
              obtain ⟨frm, hfrm⟩ : ∃ x, (f + fr) % 4294967296 = x := ⟨_, rfl⟩
              have hfm : 0 ≤ frm ∧ frm < 4294967296 := by omega
              rw [hfrm] at HRO
              have HFM := Aside0.mk hfrm
              have HM := Aside0.mk hm
              clear hfrm
              rw [hs] at cb1
              rw [hm] at cr1
              have HCB := Aside0.mk (show ∀ W, Below w.heap.size w W → W.cell? (adb.add k) = some (.string s) from fun W hW => by
                obtain ⟨ad', e', c'⟩ := Kd.at_string (Kd.C_below HS.out hW) (k : Int) (by omega) (by omega)
                injection e' with e'
                subst e'
                rw [Int.toNat_natCast, hs] at c'
                exact c')
              have HCR := Aside0.mk (show ∀ W, Below w.heap.size w W → W.cell? (adr.add k) = some (.int .i64 m) from fun W hW => by
                obtain ⟨ad', e', c'⟩ := Kd.at_int (Kd.C_below HRD.out hW) (k : Int) (by omega) (by omega)
                injection e' with e'
                subst e'
                rw [Int.toNat_natCast, hm] at c'
                exact c')
              go_upto_region 14 with (go_at_call 8; (with_reducible refine (patchbayref3_Round.calls (f + fr) frm _ HRO.out).mono ?_); rintro e' w4 ⟨rfl, hd4⟩; have cb4 := HCB.out _ (HBW.out.trans (hd4.below.mono HBW.out.size)); have HD4 := Aside0.mk hd4; clear hd4)
              have HBF4 := Aside0.mk (HBF.out.below HD4.out.below)
              have HREF4 := Aside0.mk (HREF.out.below HD4.out.below)
              have HBL4 := Aside0.mk (HBL.out.trans (HD4.out.below.mono HBL.out.size))
              clear HBF HREF HBL HBW cf1 cb1 cr1 cb4
              go_cut [17, 18] from 48 to 179 (fun v1 v2 wx => AfterIn w1 wx g w3.heap.size f room frm s p da th R v1 v2)
              case first =>
                by_cases hs4 : s.size ≤ 4096
                · obtain ⟨hoff, p', da', th', hp', hda', hth', hI, hx, hrd, hin⟩ := inv_in HINV.out f fr room frm (fr - p.length) (room - ((p.drop R).length : Int)) s HU.out hfb hroom hs4 HFM.out.symm rfl rfl
                  have HOF := Aside0.mk hoff
                  have hdl : (p.drop R).length ≤ 10000 := by have := HINV.out.n; rw [List.length_drop]; omega
                  have hpl : p.length ≤ 10000 := by have := HINV.out.n; omega
                  have hdal : da.length ≤ 10000 := by have := HINV.out.n; have := HINV.out.l; omega
                  have HRS := Aside0.mk (show AfterIn w1 w1 g w3.heap.size f room frm s p da th R undef undef → True from fun _ => trivial)
                  have HPOST : ∀ e' w5, InPost w1 w4 g ((f + p.length) % 4294967296) room (p.drop R) da th (fr - p.length) (room - ((p.drop R).length : Int)) s e' w5 → ∃ n : Int, e' = .returned (.tuple #[.int .i64 n, .int .i64 0]) ∧ AfterIn w1 w5 g w3.heap.size f room frm s p da th R (.int .i64 n) (.int .i64 0) := by
                    rintro e' w5 ⟨rfl, hbuf5, hb5, hk5⟩
                    refine ⟨_, rfl, _, _, p', da', th', rfl, rfl, hI, ?_, HREF4.out.keep hk5, hb5, .inr ⟨hs4, rfl, hin⟩⟩
                    rw [hx, hrd, hda', hth']
                    exact hbuf5
                  have HP5 := Aside0.mk HPOST
                  clear HPOST hp' hda' hth' hI hx hrd hin hoff HRS
                  go_wp2_with (go_at_call 9; (with_reducible refine (in_calls HBF4.out HBL4.out HINV.out.l (by omega) (by omega) (by omega) (by omega) hs4 HOF.out (by omega) rfl).mono ?_); intro e' w5 hpost; obtain ⟨n, rfl, haf⟩ := HP5.out e' w5 hpost; have HAF := Aside0.mk haf; clear haf hpost)
                  go_meet
                  exact HAF.out
                · have hs5 : 4096 < s.size := by omega
                  go_wp2_with (go_at_call 9; (with_reducible refine (in_large hs5).mono ?_); rintro e' w5 ⟨rfl, hb5⟩; have HB5 := Aside0.mk hb5; clear hb5)
                  go_meet
                  exact ⟨_, _, p, da, th, rfl, rfl, HINV.out, HBF4.out.below HB5.out, HREF4.out.below HB5.out, HBL4.out.trans (HB5.out.mono HBL4.out.size), .inl ⟨hs5, rfl, rfl, rfl, rfl, rfl⟩⟩
              case rest =>
                obtain ⟨n, e, p', da', th', rfl, rfl, hI, hbuf, href, hbel, hways⟩ := hcut
                have HI' := Aside0.mk hI
                have HBF5 := Aside0.mk hbuf
                have HREF5 := Aside0.mk href
                have HBL5 := Aside0.mk hbel
                have HWY := Aside0.mk hways
                clear hI hbuf href hbel hways HBF4 HREF4 HBL4
                go_upto_if 93 with fail
                go_cut [] from 48 to 179 (fun wx => Buf w1.heap.size wx g ((f + p'.length) % 4294967296) room (p'.drop R) da' th' ∧ Ref w1 wx w3.heap.size f room (p' ++ mk da' th') R ∧ Below w1.heap.size w1 wx)
                case first =>
                  rcases HWY.out with ⟨hs5, rfl, rfl, rfl, rfl, rfl⟩ | ⟨hs4, rfl, hin⟩
                  · have d5 : decide ((4096 : Int) < (s.size : Int)) = true := decide_eq_true (by omega)
                    clear HWY
                    go_wp2
                    go_meet
                    exact ⟨HBF5.out, HREF5.out, HBL5.out⟩
                  · have d5 : decide ((4096 : Int) < (s.size : Int)) = false := decide_eq_false (by omega)
                    clear HWY
                    obtain ⟨D, hD⟩ : ∃ D, D = p ++ mk da th := ⟨_, rfl⟩
                    have hre := HREF5.out
                    rw [← hD] at hre hin
                    obtain ⟨D', hD'⟩ : ∃ D', D' = p' ++ mk da' th' := ⟨_, rfl⟩
                    rw [← hD'] at hin
                    have HIN := Aside0.mk hin
                    have HD' := Aside0.mk hD'
                    clear hin hD hD'
                    obtain ⟨A, c, hz, hzw, hc, hr⟩ := hre
                    have HR := Aside0.mk hr
                    have HZ := Aside0.mk hz
                    have z0 := blk_cell hz 0
                    have z1 := blk_cell hz 1
                    have z2 := blk_cell hz 2
                    have z3 := blk_cell hz 3
                    clear hr hz
                    go_wp2_with (go_at_call 10; (with_reducible refine (patchbayref3_Recv_In.calls 1000000 f room A c D R frm s _ _ _ _ _ _ (Kd.R_reads' HR.out).2.2 hc HIN.out).mono ?_); rintro e' w6 ⟨v2, rfl, hr6, hb6⟩; obtain ⟨A6, c6, rfl, hc6, hC6⟩ := Kd.R_reads hr6; clear hC6; have hz6 := blk_below HZ.out hb6; have y0 := blk_cell hz6 0; have y1 := blk_cell hz6 1; have y2 := blk_cell hz6 2; have y3 := blk_cell hz6 3; have q0 := blk_frozen hz6 0; have q1 := blk_frozen hz6 1; have q2 := blk_frozen hz6 2; have q3 := blk_frozen hz6 3; have HZ6 := Aside0.mk hz6; clear hz6; have HR6 := Aside0.mk hr6; have HB6 := Aside0.mk hb6; clear hr6 hb6)
                    go_meet
                    rw [← HD'.out]
                    exact put4 (HBF5.out.below HB6.out) HZ6.out hzw hc6 (Kd.R_lower HR6.out HBL5.out.size) (HBL5.out.trans (HB6.out.mono HBL5.out.size))
                case rest =>
                  obtain ⟨hbuf, href, hbel⟩ := hcut
                  have HBF6 := Aside0.mk hbuf
                  have HREF6 := Aside0.mk href
                  have HBL6 := Aside0.mk hbel
                  clear hbuf href hbel HBF5 HREF5 HBL5 HWY
                  have cr6 := HCR.out _ (HB1.out.trans (HBL6.out.mono HB1.out.size))
                  go_upto_region 22 with fail
                  go_cut [20, 18] from 48 to 179 (fun v1 v2 wx => AfterRead w1 wx g w3.heap.size f room m p' da' th' R v1 v2)
                  case first =>
                    by_cases hmn : m < 0
                    · go_wp2_with (go_at_call 11; (with_reducible refine (read_no hmn).mono ?_); rintro e' w7 ⟨rfl, hb7⟩; have HB7 := Aside0.mk hb7; clear hb7)
                      go_meet
                      exact ⟨_, _, R, rfl, rfl, HI'.out, HBF6.out.below HB7.out, HREF6.out.below HB7.out, HBL6.out.trans (HB7.out.mono HBL6.out.size), .inl ⟨hmn, rfl, rfl, rfl⟩⟩
                    · obtain ⟨q, hq, hql, hI2, hdr, htk⟩ := inv_take HI'.out f room m (by omega)
                      have HPOST : ∀ e' w7, ReadPost w1 wc g ((f + p'.length) % 4294967296) room (p'.drop R) da' th' q e' w7 → ∃ t : ByteArray, e' = .returned (.tuple #[.string t, .int .i64 0]) ∧ AfterRead w1 w7 g w3.heap.size f room m p' da' th' R (.string t) (.int .i64 0) := by
                        rintro e' w7 ⟨rfl, hbuf7, hb7, hk7⟩
                        refine ⟨_, rfl, _, _, R + q, rfl, rfl, hI2, ?_, HREF6.out.keep hk7, hb7, .inr ⟨by omega, rfl, htk⟩⟩
                        rw [hdr]
                        exact hbuf7
                      have HP7 := Aside0.mk HPOST
                      have hdl : (p'.drop R).length ≤ 10000 := by have := HI'.out.n; rw [List.length_drop]; omega
                      have HQ := Aside0.mk hq
                      clear HPOST hI2 hdr htk hq
                      go_wp2_with (go_at_call 11; (with_reducible refine (read_yes HBF6.out HBL6.out (by omega) hql HQ.out).mono ?_); intro e' w7 hpost; obtain ⟨t, rfl, haf⟩ := HP7.out e' w7 hpost; have HAF := Aside0.mk haf; clear haf hpost)
                      go_meet
                      exact HAF.out
                  case rest =>
                    obtain ⟨t, e, R', rfl, rfl, hI2, hbuf, href, hbel, hways⟩ := hcut
                    have HI2 := Aside0.mk hI2
                    have HBF7 := Aside0.mk hbuf
                    have HREF7 := Aside0.mk href
                    have HBL7 := Aside0.mk hbel
                    have HWY := Aside0.mk hways
                    clear hI2 hbuf href hbel hways HBF6 HREF6 HBL6 cr6
                    have cr7 := HCR.out _ (HB1.out.trans (HBL7.out.mono HB1.out.size))
                    go_upto_if 127 with fail
                    go_cut [] from 48 to 179 (fun wx => Buf w1.heap.size wx g ((f + p'.length) % 4294967296) room (p'.drop R') da' th' ∧ Ref w1 wx w3.heap.size f room (p' ++ mk da' th') R' ∧ Below w1.heap.size w1 wx)
                    case first =>
                      rcases HWY.out with ⟨hmn, rfl, rfl, rfl⟩ | ⟨hmn, rfl, htk⟩
                      · have d6 : decide (m < 0) = true := decide_eq_true hmn
                        clear HWY
                        go_wp2
                        go_meet
                        exact ⟨HBF7.out, HREF7.out, HBL7.out⟩
                      · have d6 : decide (m < 0) = false := decide_eq_false (by omega)
                        clear HWY
                        obtain ⟨D, hD⟩ : ∃ D, D = p' ++ mk da' th' := ⟨_, rfl⟩
                        have hre := HREF7.out
                        rw [← hD] at hre htk
                        have HTK := Aside0.mk htk
                        have HD := Aside0.mk hD
                        clear htk hD
                        obtain ⟨A, c, hz, hzw, hc, hr⟩ := hre
                        have HB := Aside0.mk (below_drew HBL7.out)
                        have BF := Aside0.mk (HBF7.out.below (below_drew (Below.refl _ _)))
                        have ZZ := Aside0.mk (show wc.drew.heap[w3.heap.size]? = some (Obj.cells #[.int .u32 f, .int .i64 room, .slice A D.length c, .int .i64 (R : Int)] 32 (0, 0)) from hz)
                        have R0 := Aside0.mk (Kd.R_tight rfl (Kd.R_drew hr))
                        have HZW := Aside0.mk hzw
                        clear hz hzw hc hr
                        go_upto_region 27 with fail
                        refine start_ (n := 11) (S := fun w' => True) (ds := []) #[false, false, false, false, false, false, false, false, false, false, false] (by kernel_rfl) rfl rfl trivial (fun hHeld => ?_); refine with_tabW law.tab27 law.bits27 (fun HT_ HW_ => ?_)
                        generalize wc.drew = wS at HB BF ZZ R0 ⊢
                        refine pure_ (i := 1) (N := some 136) (v := ?_) (a' := ?_) #[false, true, false, false, false, false, false, false, false, false, false] rfl rfl (any_of HT_.out (by kernel_rfl)) (fun _ _ _ h => h) (Or.inl ⟨by rfl, ?_⟩) ?_ ?_
                        rotate_left
                        · intro w'
                          go_simp
                          with_reducible rfl
                        rotate_left
                        · simp only [Act.put, List.setIfInBounds_toArray, List.set_cons_zero, List.set_cons_succ, i64_w, i32_w]
                          rfl
                        refine pure_ (i := 2) (N := some 137) (v := ?_) (a' := ?_) #[false, true, true, false, false, false, false, false, false, false, false] rfl rfl (any_of HT_.out (by kernel_rfl)) (fun _ _ _ h => h) (Or.inl ⟨by rfl, ?_⟩) ?_ ?_
                        rotate_left
                        · intro w'
                          go_simp
                          with_reducible rfl
                        rotate_left
                        · simp only [Act.put, List.setIfInBounds_toArray, List.set_cons_zero, List.set_cons_succ, i64_w, i32_w]
                          rfl
                        refine pure_ (i := 3) (N := some 138) (v := ?_) (a' := ?_) #[false, true, true, true, false, false, false, false, false, false, false] rfl rfl (any_of HT_.out (by kernel_rfl)) (fun _ _ _ h => h) (Or.inl ⟨by rfl, ?_⟩) ?_ ?_
                        rotate_left
                        · intro w'
                          go_simp
                          with_reducible rfl
                        rotate_left
                        · simp only [Act.put, List.setIfInBounds_toArray, List.set_cons_zero, List.set_cons_succ, i64_w, i32_w]
                          rfl
                        refine inv_at [0, 4, 5, 6, 7, 8, 9, 10] (fun a0_ b a w' => ∃ (A7_ : Option Addr) (c7_ : Nat) (m5_ : Value) (m6_ : Value) (m7_ : Value), a = putSel a0_ b [(0, 135, .agg #[.int .u32 f, .int .i64 room, .slice A D.length c, .int .i64 (R : Int)]), (4, 139, .int .i64 m), (5, 140, m5_), (6, 134, m6_), (7, 141, m7_), (8, 142, .string t), (10, 21, .string t)] ∧ (Below w1.heap.size w1 w') ∧ (Buf w1.heap.size w' g ((f + p'.length) % 4294967296) room (p'.drop R') da' th') ∧ (b 9 = false → w'.heap[w3.heap.size]? = some (Obj.cells #[.int .u32 f, .int .i64 room, .slice A D.length c, .int .i64 (R : Int)] 32 (0, 0))) ∧ (b 5 = false → Kd.R (Kd.int .i64) 3 w' w1.heap.size (fun k_ => some k_ = (.slice A D.length c : Value).ownBlock) (.slice A D.length c) D) ∧ (b 5 = true → b 9 = false → D.length ≤ c7_ ∧ Kd.R (Kd.int .i64) 3 w' w1.heap.size (fun _ => True) (.slice A7_ D.length c7_) D) ∧ (b 9 = true → Ref w1 w' w3.heap.size f room D R') ∧ (b 5 = true → (m5_ : Value) = .tuple #[.agg #[.int .u32 f, .int .i64 room, .slice A7_ D.length c7_, .int .i64 (R' : Int)], .string t]) ∧ (b 6 = true → (m6_ : Value) = .tuple #[.agg #[.int .u32 f, .int .i64 room, .slice A7_ D.length c7_, .int .i64 (R' : Int)], .string t]) ∧ (b 7 = true → (m7_ : Value) = .agg #[.int .u32 f, .int .i64 room, .slice A7_ D.length c7_, .int .i64 (R' : Int)])) HT_.out HW_.out (by kernel_rfl) (by kernel_rfl) ?_ ?_ ?_
                        · exact ⟨none, 0, .bool false, .bool false, .bool false, by simp only [putSel, Bool.false_eq_true, if_false], HB.out, BF.out, fun _ => ZZ.out, fun _ => R0.out, fun h_ => absurd h_ (by decide), fun h_ => absurd h_ (by decide), fun h_ => absurd h_ (by decide), fun h_ => absurd h_ (by decide), fun h_ => absurd h_ (by decide)⟩
                        · skip
                          clear BF HB R0 ZZ
                          refine steps_cons ?_ ?_
                          · rintro b a w' ⟨A7_, c7_, m5_, m6_, m7_, ha, Q_HB, Q_BF, Q_ZZ, Q_R0, Q_R1, Q_RF, Q_X5_, Q_X6_, Q_X7_⟩ hb_ hon hoff
                            refine ⟨_, rfl, fun K hK => ?_⟩
                            have e13 : a.tmps[13]? = some (.pointer (some ⟨w3.heap.size, 0, none⟩)) := by rw [ha]; exact (putSel_off rfl).trans rfl
                            replace ha := Aside0.mk ha
                            have HB := Aside0.mk Q_HB
                            have BF := Aside0.mk Q_BF
                            have ZZ := Aside0.mk (Q_ZZ (hoff 9 (by kernel_rfl)))
                            have R0 := Aside0.mk (Q_R0 (hoff 5 (by kernel_rfl)))
                            have hz0_ : w'.cell? ⟨w3.heap.size, 0, none⟩ = some (.int .u32 f) := (blk_cell ZZ.out 0).trans rfl
                            have hz1_ : w'.cell? ⟨w3.heap.size, 1, none⟩ = some (.int .i64 room) := (blk_cell ZZ.out 1).trans rfl
                            have hz2_ : w'.cell? ⟨w3.heap.size, 2, none⟩ = some (.slice A D.length c) := (blk_cell ZZ.out 2).trans rfl
                            have hz3_ : w'.cell? ⟨w3.heap.size, 3, none⟩ = some (.int .i64 (R : Int)) := (blk_cell ZZ.out 3).trans rfl
                            refine value_ (w1 := w') (v := .agg #[.int .u32 f, .int .i64 room, .slice A D.length c, .int .i64 (R : Int)]) (by rfl) rfl ?_ ?_
                            · go_simp
                              (try simp only [i64_w])
                              try rfl
                            refine hK.out _ _ ⟨A7_, c7_, m5_, m6_, m7_, (by rw [ha.out]; exact putSel_upk 0 hb_ rfl rfl rfl), Q_HB, Q_BF, Q_ZZ, Q_R0, fun h0_ _ => absurd ((hoff 5 (by kernel_rfl)).symm.trans h0_) (by decide), fun h0_ => absurd ((hoff 9 (by kernel_rfl)).symm.trans h0_) (by decide), fun h0_ => absurd ((hoff 5 (by kernel_rfl)).symm.trans h0_) (by decide), fun h0_ => absurd ((hoff 6 (by kernel_rfl)).symm.trans h0_) (by decide), fun h0_ => absurd ((hoff 7 (by kernel_rfl)).symm.trans h0_) (by decide)⟩
                          refine steps_cons ?_ ?_
                          · rintro b a w' ⟨A7_, c7_, m5_, m6_, m7_, ha, Q_HB, Q_BF, Q_ZZ, Q_R0, Q_R1, Q_RF, Q_X5_, Q_X6_, Q_X7_⟩ hb_ hon hoff
                            refine ⟨_, rfl, fun K hK => ?_⟩
                            have e138 : a.tmps[138]? = some (.pointer (some (adr.add k))) := by rw [ha]; exact (putSel_off rfl).trans rfl
                            replace ha := Aside0.mk ha
                            have HB := Aside0.mk Q_HB
                            have BF := Aside0.mk Q_BF
                            have ZZ := Aside0.mk (Q_ZZ (hoff 9 (by kernel_rfl)))
                            have R0 := Aside0.mk (Q_R0 (hoff 5 (by kernel_rfl)))
                            have hc_ := HCR.out _ (HB1.out.trans (HB.out.mono HB1.out.size))
                            refine value_ (w1 := w') (v := .int .i64 m) (by rfl) rfl ?_ ?_
                            · go_simp
                              (try simp only [i64_w])
                              try rfl
                            refine hK.out _ _ ⟨A7_, c7_, m5_, m6_, m7_, (by rw [ha.out]; exact putSel_upk 1 hb_ rfl rfl rfl), Q_HB, Q_BF, Q_ZZ, Q_R0, fun h0_ _ => absurd ((hoff 5 (by kernel_rfl)).symm.trans h0_) (by decide), fun h0_ => absurd ((hoff 9 (by kernel_rfl)).symm.trans h0_) (by decide), fun h0_ => absurd ((hoff 5 (by kernel_rfl)).symm.trans h0_) (by decide), fun h0_ => absurd ((hoff 6 (by kernel_rfl)).symm.trans h0_) (by decide), fun h0_ => absurd ((hoff 7 (by kernel_rfl)).symm.trans h0_) (by decide)⟩
                          refine steps_cons ?_ ?_
                          · rintro b a w' ⟨A7_, c7_, m5_, m6_, m7_, ha, Q_HB, Q_BF, Q_ZZ, Q_R0, Q_R1, Q_RF, Q_X5_, Q_X6_, Q_X7_⟩ hb_ hon hoff
                            refine ⟨_, rfl, fun K hK => ?_⟩
                            have e135 : a.tmps[135]? = some (.agg #[.int .u32 f, .int .i64 room, .slice A D.length c, .int .i64 (R : Int)]) := by rw [ha]; exact putSel_on (e := (0, 135, .agg #[.int .u32 f, .int .i64 room, .slice A D.length c, .int .i64 (R : Int)])) 0 rfl rfl (hon 0 (by kernel_rfl)) rfl
                            have e139 : a.tmps[139]? = some (.int .i64 m) := by rw [ha]; exact putSel_on (e := (4, 139, .int .i64 m)) 1 rfl rfl (hon 4 (by kernel_rfl)) rfl
                            replace ha := Aside0.mk ha
                            have HB := Aside0.mk Q_HB
                            have BF := Aside0.mk Q_BF
                            have ZZ := Aside0.mk (Q_ZZ (hoff 9 (by kernel_rfl)))
                            have R0 := Aside0.mk (Q_R0 hb_)
                            refine goes_ Try.func12 (by kernel_rfl) rfl #[.agg #[.int .u32 f, .int .i64 room, .slice A D.length c, .int .i64 (R : Int)], .int .i64 m] (by rfl) rfl rfl (by first | (simp only [List.map_toArray, List.map_cons, List.map_nil, Act.eval, Array.getD_eq_getD_getElem?, Option.getD_some, e135, e139]; done) | (simp only [List.map_toArray, List.map_cons, List.map_nil, Act.eval, Array.getD_eq_getD_getElem?, Option.getD_some, e135, e139]; rfl)) ?_
                            with_reducible refine (patchbayref3_Recv_Take.calls 1000000 f room (fun k_ => some k_ = (.slice A D.length c : Value).ownBlock) (.slice A D.length c) D R m _ _ _ _ _ w1 _ HB.out R0.out HTK.out).mono ?_
                            rintro e w1n ⟨v7n, rfl, hr7n, hb7n, hk7n⟩
                            obtain ⟨A7n, c7n, rfl, hc7n, _⟩ := Kd.R_reads hr7n
                            obtain ⟨tb_, tz_⟩ := take_after BF.out ZZ.out R0.out hk7n
                            refine ⟨_, rfl, ?_⟩
                            refine hK.out _ _ ⟨A7n, c7n, (.tuple #[.agg #[.int .u32 f, .int .i64 room, .slice A7n D.length c7n, .int .i64 (R' : Int)], .string t]), m6_, m7_, (by rw [ha.out]; exact putSel_upk 2 hb_ rfl rfl rfl), hb7n, tb_, fun _ => tz_, fun h0_ => absurd ((up_self b 5).symm.trans h0_) (by decide), fun _ _ => ⟨hc7n, Kd.R_mono hr7n (fun _ _ => trivial)⟩, fun h0_ => absurd ((hoff 9 (by kernel_rfl)).symm.trans h0_) (by decide), fun _ => rfl, fun h0_ => absurd ((hoff 6 (by kernel_rfl)).symm.trans h0_) (by decide), fun h0_ => absurd ((hoff 7 (by kernel_rfl)).symm.trans h0_) (by decide)⟩
                          refine steps_cons ?_ ?_
                          · rintro b a w' ⟨A7_, c7_, m5_, m6_, m7_, ha, Q_HB, Q_BF, Q_ZZ, Q_R0, Q_R1, Q_RF, Q_X5_, Q_X6_, Q_X7_⟩ hb_ hon hoff
                            refine ⟨_, rfl, fun K hK => ?_⟩
                            have e140 : a.tmps[140]? = some (m5_) := by rw [ha]; exact putSel_on (e := (5, 140, m5_)) 2 rfl rfl (hon 5 (by kernel_rfl)) rfl
                            rw [Q_X5_ (hon 5 (by kernel_rfl))] at e140
                            replace ha := Aside0.mk ha
                            have HB := Aside0.mk Q_HB
                            have BF := Aside0.mk Q_BF
                            have ZZ := Aside0.mk (Q_ZZ (hoff 9 (by kernel_rfl)))
                            have R1 := Aside0.mk (Q_R1 (hon 5 (by kernel_rfl)) (hoff 9 (by kernel_rfl)))
                            refine value_ (w1 := w') (v := .tuple #[.agg #[.int .u32 f, .int .i64 room, .slice A7_ D.length c7_, .int .i64 (R' : Int)], .string t]) (by rfl) rfl ?_ ?_
                            · go_simp
                              (try simp only [i64_w])
                              try rfl
                            refine hK.out _ _ ⟨A7_, c7_, m5_, (.tuple #[.agg #[.int .u32 f, .int .i64 room, .slice A7_ D.length c7_, .int .i64 (R' : Int)], .string t]), m7_, (by rw [ha.out]; exact putSel_upk 3 hb_ rfl rfl rfl), Q_HB, Q_BF, Q_ZZ, fun h0_ => absurd ((hon 5 (by kernel_rfl)).symm.trans h0_) (by decide), Q_R1, fun h0_ => absurd ((hoff 9 (by kernel_rfl)).symm.trans h0_) (by decide), Q_X5_, fun _ => rfl, fun h0_ => absurd ((hoff 7 (by kernel_rfl)).symm.trans h0_) (by decide)⟩
                          refine steps_cons ?_ ?_
                          · rintro b a w' ⟨A7_, c7_, m5_, m6_, m7_, ha, Q_HB, Q_BF, Q_ZZ, Q_R0, Q_R1, Q_RF, Q_X5_, Q_X6_, Q_X7_⟩ hb_ hon hoff
                            refine ⟨_, rfl, fun K hK => ?_⟩
                            have e134 : a.tmps[134]? = some (m6_) := by rw [ha]; exact putSel_on (e := (6, 134, m6_)) 3 rfl rfl (hon 6 (by kernel_rfl)) rfl
                            rw [Q_X6_ (hon 6 (by kernel_rfl))] at e134
                            replace ha := Aside0.mk ha
                            have HB := Aside0.mk Q_HB
                            have BF := Aside0.mk Q_BF
                            have ZZ := Aside0.mk (Q_ZZ (hoff 9 (by kernel_rfl)))
                            have R1 := Aside0.mk (Q_R1 (hon 5 (by kernel_rfl)) (hoff 9 (by kernel_rfl)))
                            refine value_ (w1 := w') (v := .agg #[.int .u32 f, .int .i64 room, .slice A7_ D.length c7_, .int .i64 (R' : Int)]) (by rfl) rfl ?_ ?_
                            · go_simp
                              (try simp only [i64_w])
                              try rfl
                            refine hK.out _ _ ⟨A7_, c7_, m5_, m6_, (.agg #[.int .u32 f, .int .i64 room, .slice A7_ D.length c7_, .int .i64 (R' : Int)]), (by rw [ha.out]; exact putSel_upk 4 hb_ rfl rfl rfl), Q_HB, Q_BF, Q_ZZ, fun h0_ => absurd ((hon 5 (by kernel_rfl)).symm.trans h0_) (by decide), Q_R1, fun h0_ => absurd ((hoff 9 (by kernel_rfl)).symm.trans h0_) (by decide), Q_X5_, Q_X6_, fun _ => rfl⟩
                          refine steps_cons ?_ ?_
                          · rintro b a w' ⟨A7_, c7_, m5_, m6_, m7_, ha, Q_HB, Q_BF, Q_ZZ, Q_R0, Q_R1, Q_RF, Q_X5_, Q_X6_, Q_X7_⟩ hb_ hon hoff
                            refine ⟨_, rfl, fun K hK => ?_⟩
                            have e134 : a.tmps[134]? = some (m6_) := by rw [ha]; exact putSel_on (e := (6, 134, m6_)) 3 rfl rfl (hon 6 (by kernel_rfl)) rfl
                            rw [Q_X6_ (hon 6 (by kernel_rfl))] at e134
                            replace ha := Aside0.mk ha
                            have HB := Aside0.mk Q_HB
                            have BF := Aside0.mk Q_BF
                            refine value_ (w1 := w') (v := .string t) (by rfl) rfl ?_ ?_
                            · go_simp
                              (try simp only [i64_w])
                              try rfl
                            refine hK.out _ _ ⟨A7_, c7_, m5_, m6_, m7_, (by rw [ha.out]; exact putSel_upk 5 hb_ rfl rfl rfl), Q_HB, Q_BF, Q_ZZ, fun h0_ => absurd ((hon 5 (by kernel_rfl)).symm.trans h0_) (by decide), Q_R1, Q_RF, Q_X5_, Q_X6_, Q_X7_⟩
                          refine steps_cons ?_ ?_
                          · rintro b a w' ⟨A7_, c7_, m5_, m6_, m7_, ha, Q_HB, Q_BF, Q_ZZ, Q_R0, Q_R1, Q_RF, Q_X5_, Q_X6_, Q_X7_⟩ hb_ hon hoff
                            refine ⟨_, rfl, fun K hK => ?_⟩
                            have e13 : a.tmps[13]? = some (.pointer (some ⟨w3.heap.size, 0, none⟩)) := by rw [ha]; exact (putSel_off rfl).trans rfl
                            have e141 : a.tmps[141]? = some (m7_) := by rw [ha]; exact putSel_on (e := (7, 141, m7_)) 4 rfl rfl (hon 7 (by kernel_rfl)) rfl
                            rw [Q_X7_ (hon 7 (by kernel_rfl))] at e141
                            replace ha := Aside0.mk ha
                            have HB := Aside0.mk Q_HB
                            have BF := Aside0.mk Q_BF
                            have ZZ := Aside0.mk (Q_ZZ hb_)
                            have R1 := Aside0.mk (Q_R1 (hon 5 (by kernel_rfl)) hb_)
                            have hz0_ : w'.cell? ⟨w3.heap.size, 0, none⟩ = some (.int .u32 f) := (blk_cell ZZ.out 0).trans rfl
                            have hz1_ : w'.cell? ⟨w3.heap.size, 1, none⟩ = some (.int .i64 room) := (blk_cell ZZ.out 1).trans rfl
                            have hz2_ : w'.cell? ⟨w3.heap.size, 2, none⟩ = some (.slice A D.length c) := (blk_cell ZZ.out 2).trans rfl
                            have hz3_ : w'.cell? ⟨w3.heap.size, 3, none⟩ = some (.int .i64 (R : Int)) := (blk_cell ZZ.out 3).trans rfl
                            have hf_ := blk_frozen ZZ.out 0
                            have hf1_ := blk_frozen ZZ.out 1
                            have hf2_ := blk_frozen ZZ.out 2
                            have hf3_ := blk_frozen ZZ.out 3
                            obtain ⟨pb_, pr_, pl_⟩ := put4 (f := f) (room := room) (R := (R' : Int)) BF.out ZZ.out HZW.out R1.out.1 R1.out.2 HB.out
                            refine skip_ (w1 := ((((w'.setCell ⟨w3.heap.size, 0, none⟩ (.int .u32 f)).setCell ⟨w3.heap.size, 1, none⟩ (.int .i64 room)).setCell ⟨w3.heap.size, 2, none⟩ (.slice A7_ D.length c7_)).setCell ⟨w3.heap.size, 3, none⟩ (.int .i64 (R' : Int)))) (by rfl) rfl ?_ ?_
                            · go_simp
                            refine hK.out _ _ ⟨A7_, c7_, m5_, m6_, m7_, (by rw [ha.out]; exact putSel_none (v := undef) rfl), pl_, pb_, fun h0_ => absurd ((up_self b 9).symm.trans h0_) (by decide), fun h0_ => absurd ((hon 5 (by kernel_rfl)).symm.trans h0_) (by decide), fun _ h1_ => absurd ((up_self b 9).symm.trans h1_) (by decide), fun _ => pr_, Q_X5_, Q_X6_, Q_X7_⟩
                          refine steps_cons ?_ ?_
                          · rintro b a w' ⟨A7_, c7_, m5_, m6_, m7_, ha, Q_HB, Q_BF, Q_ZZ, Q_R0, Q_R1, Q_RF, Q_X5_, Q_X6_, Q_X7_⟩ hb_ hon hoff
                            refine ⟨_, rfl, fun K hK => ?_⟩
                            have e142 : a.tmps[142]? = some (.string t) := by rw [ha]; exact putSel_on (e := (8, 142, .string t)) 5 rfl rfl (hon 8 (by kernel_rfl)) rfl
                            replace ha := Aside0.mk ha
                            have HB := Aside0.mk Q_HB
                            have BF := Aside0.mk Q_BF
                            have RF := Aside0.mk (Q_RF (hon 9 (by kernel_rfl)))
                            refine value_ (w1 := w') (v := .string t) (by rfl) rfl ?_ ?_
                            · go_simp
                              (try simp only [i64_w])
                              try rfl
                            refine hK.out _ _ ⟨A7_, c7_, m5_, m6_, m7_, (by rw [ha.out]; exact putSel_upk 6 hb_ rfl rfl rfl), Q_HB, Q_BF, fun h0_ => absurd ((hon 9 (by kernel_rfl)).symm.trans h0_) (by decide), fun h0_ => absurd ((hon 5 (by kernel_rfl)).symm.trans h0_) (by decide), fun _ h1_ => absurd ((hon 9 (by kernel_rfl)).symm.trans h1_) (by decide), Q_RF, Q_X5_, Q_X6_, Q_X7_⟩
                          exact steps_nil
                        rintro b a wE hall ⟨A7_, c7_, m5_, m6_, m7_, ha, Q_HB, Q_BF, Q_ZZ, Q_R0, Q_R1, Q_RF, Q_X5_, Q_X6_, Q_X7_⟩
                        clear BF HB R0 ZZ
                        have hb0_ := hall 0 (by kernel_rfl)
                        have hb4_ := hall 4 (by kernel_rfl)
                        have hb5_ := hall 5 (by kernel_rfl)
                        have hb6_ := hall 6 (by kernel_rfl)
                        have hb7_ := hall 7 (by kernel_rfl)
                        have hb8_ := hall 8 (by kernel_rfl)
                        have hb9_ := hall 9 (by kernel_rfl)
                        have hb10_ := hall 10 (by kernel_rfl)
                        subst ha
                        obtain rfl := Q_X5_ hb5_
                        obtain rfl := Q_X6_ hb6_
                        obtain rfl := Q_X7_ hb7_
                        simp only [putSel, hb0_, hb4_, hb5_, hb6_, hb7_, hb8_, hb9_, hb10_, if_true, Act.put, List.setIfInBounds_toArray, List.set_cons_zero, List.set_cons_succ]
                        have HB := Aside0.mk Q_HB
                        clear Q_HB
                        have BF := Aside0.mk Q_BF
                        clear Q_BF
                        clear Q_ZZ
                        clear Q_R0
                        clear Q_R1
                        have RF := Aside0.mk (Q_RF hb9_)
                        clear Q_RF
                        clear hall hb0_ hb4_ hb5_ hb6_ hb7_ hb8_ hb9_ hb10_
                        go_wp2
                        go_meet
                        exact ⟨BF.out, by rw [← HD.out]; exact RF.out, HB.out⟩
                    case rest =>
                      obtain ⟨hbuf, href, hbel⟩ := hcut
                      obtain ⟨n9, rfl⟩ : ∃ q, gk = q + 1 := ⟨gk - 1, by have := HKN.out; omega⟩
                      obtain ⟨A, c, hz, hzw, hcD0, hr⟩ := href
                      have HI9 := HI2.out
                      have hpl : p'.length ≤ 10000 := by have := HI9.n; omega
                      have hth6 : th'.length ≤ 100000 := by have := HI9.n; omega
                      have hdl : (p'.drop R').length = p'.length - R' := List.length_drop
                      have hdl6 : (p'.drop R').length ≤ 1000000 := by omega
                      have hRp := HI9.r
                      have hrm : 0 ≤ room ∧ room ≤ 65535 := by omega
                      obtain ⟨D, hD⟩ : ∃ D, D = p' ++ mk da' th' := ⟨_, rfl⟩
                      obtain ⟨GI, hGI⟩ : ∃ q : Int, (p'.length : Int) = q := ⟨_, rfl⟩
                      obtain ⟨RI, hRI⟩ : ∃ q : Int, (R' : Int) = q := ⟨_, rfl⟩
                      obtain ⟨rl, hrl⟩ : ∃ q : Int, ((p'.drop R').length : Int) = q := ⟨_, rfl⟩
                      obtain ⟨nx, hnxe⟩ : ∃ q : Int, (f + (p'.length : Int)) % 4294967296 = q := ⟨_, rfl⟩
                      obtain ⟨l, hle⟩ : ∃ l, pbl nx th' (th'.length + 1) 0 = l := ⟨_, rfl⟩
                      have hgap := gap_mk da' th' HI9.l HI9.z
                      have HGT := Aside0.mk (got_v 1000000 f room RI p' _ HI9.b hgap (by omega) (by omega))
                      have HNX := Aside0.mk (next_v 1000000 f room RI p' _ HI9.b hgap (by omega) (by omega) HU.out)
                      have HWV := Aside0.mk (window_v 1000000 f room RI p' _ HI9.b hgap (by omega) (by omega) hrm (by omega))
                      have HBK := Aside0.mk (blocks_v 1000000 f room RI p' da' th' HI9.l HI9.d HI9.b (by omega) hth6 HU.out HI9.z (by decide))
                      rw [show (p'.length : Int) - RI = rl from by omega] at HWV
                      have HLL := pbl_len nx th' (th'.length + 1) 0
                      rw [hle] at HLL
                      have HSM := Aside0.mk (same_v l (by omega) 1000000 (by omega))
                      rw [hnxe] at HNX HBK hbuf
                      rw [hle] at HBK
                      rw [← hD] at HGT HNX HWV HBK hz hcD0 hr
                      rw [hGI] at HGT
                      rw [hRI] at hz
                      have hnx : 0 ≤ nx ∧ nx < 4294967296 := by omega
                      have hcD : D.length ≤ c := hcD0
                      have hsub : GI - RI = rl := by omega
                      have hgb : 0 ≤ GI ∧ GI ≤ 10000 := by omega
                      have hwr : wrap64 rl = rl := w64 (by omega)
                      have hrb : 0 ≤ RI ∧ RI ≤ 10000 := by omega
                      have HRL := Aside0.mk hrl
                      have HLB := Aside0.mk hle
                      have HD := Aside0.mk hD
                      have HE := Aside0.mk hnxe
                      have HRI := Aside0.mk hRI
                      have HZW := Aside0.mk hzw
                      have HI8 := Aside0.mk HI9
                      clear hgap HLL hdl hpl hRp hGI hRI hrl hnxe hle hD hzw HI9 hcD0
                      have HS := Aside0.mk (Below.refl wc.drew.heap.size wc.drew)
                      have BF0 := Aside0.mk (hbuf.below (below_drew (Below.refl _ _)))
                      have Z0 := Aside0.mk (show wc.drew.heap[w3.heap.size]? = some (Obj.cells #[.int .u32 f, .int .i64 room, .slice A D.length c, .int .i64 RI] 32 (0, 0)) from hz)
                      have CD0 := Aside0.mk ((Kd.R_reads' (Kd.R_drew hr)).2.2)
                      have BL0 := Aside0.mk (below_drew hbel)
                      have HRF := Aside0.mk (Kd.R_drew hr)
                      clear hz hr hbuf hbel HBF7 HREF7 HBL7 cr7 HWY
                      go_upto_region 30 with fail
                      refine start_ (n := 30) (S := fun w' => True) (ds := []) #[false, false, false, false, false, false, false, false, false, false, false, false, false, false, false, false, false, false, false, false, false, false, false, false, false, false, false, false, false, false] (by kernel_rfl) rfl rfl trivial (fun hHeld => ?_); refine with_tabW law.tab30 law.bits30 (fun HT_ HW_ => ?_)
                      obtain ⟨wS, hwS⟩ : ∃ x, wc.drew = x := ⟨_, rfl⟩
                      rw [hwS] at HS BF0 Z0 CD0 BL0 HRF ⊢
                      clear hwS
                      refine pure_ (i := 0) (N := some 150) (v := ?_) (a' := ?_) #[true, false, false, false, false, false, false, false, false, false, false, false, false, false, false, false, false, false, false, false, false, false, false, false, false, false, false, false, false, false] rfl rfl (any_of HT_.out (by kernel_rfl)) (fun _ _ _ h => h) (Or.inl ⟨by rfl, ?_⟩) ?_ ?_
                      rotate_left
                      · intro w'
                        go_simp
                        with_reducible rfl
                      rotate_left
                      · simp only [Act.put, List.setIfInBounds_toArray, List.set_cons_zero, List.set_cons_succ, i64_w, i32_w]
                        rfl
                      refine inv_at [1, 2, 3, 4, 5, 6, 7, 8, 9, 10, 11, 12, 13, 14, 15, 16, 17, 18, 19, 20, 21, 22, 23, 24, 25, 26, 27, 28, 29] (fun a0_ b a w' => ∃ (AB_ : Option Addr) (cB_ : Nat) (AC_ : Option Addr) (cC_ : Nat) (m24_ : Value) (m26_ : Value), a = putSel a0_ b [(1, 151, .int .u32 nx), (2, 152, .agg #[.int .u32 f, .int .i64 room, .slice A D.length c, .int .i64 RI]), (3, 153, .int .u32 nx), (4, 154, .bool false), (5, 155, .bool false), (6, 156, .pointer (some ⟨g, 0, none⟩)), (7, 157, .int .i64 (room - rl)), (8, 158, .agg #[.int .u32 f, .int .i64 room, .slice A D.length c, .int .i64 RI]), (9, 159, .int .i64 (room - rl)), (10, 160, .bool false), (11, 161, .bool false), (12, 162, .bool false), (13, 163, .pointer (some ⟨g, 0, none⟩)), (14, 164, .int .i64 rl), (15, 165, .agg #[.int .u32 f, .int .i64 room, .slice A D.length c, .int .i64 RI]), (16, 166, .int .i64 GI), (17, 167, .pointer (some ⟨w3.heap.size, 3, none⟩)), (18, 168, .int .i64 RI), (19, 169, .int .i64 rl), (20, 170, .bool false), (21, 171, .bool false), (22, 172, .bool false), (23, 173, .pointer (some ⟨g, 0, none⟩)), (24, 174, m24_), (25, 175, .agg #[.int .u32 f, .int .i64 room, .slice A D.length c, .int .i64 RI]), (26, 176, m26_), (27, 177, .bool true), (28, 178, .bool false), (29, 179, .bool false)] ∧ (Below wS.heap.size wS w') ∧ (b 24 = true → l.length ≤ cB_ ∧ Kd.C k74 w' AB_ l.length l) ∧ (b 26 = true → l.length ≤ cC_ ∧ Kd.C k74 w' AC_ l.length l) ∧ (b 24 = true → (m24_ : Value) = .slice AB_ l.length cB_) ∧ (b 26 = true → (m26_ : Value) = .slice AC_ l.length cC_)) HT_.out HW_.out (by kernel_rfl) (by kernel_rfl) ?_ ?_ ?_
                      · exact ⟨none, 0, none, 0, .bool false, .bool false, by simp only [putSel, Bool.false_eq_true, if_false], HS.out, fun h_ => absurd h_ (by decide), fun h_ => absurd h_ (by decide), fun h_ => absurd h_ (by decide), fun h_ => absurd h_ (by decide)⟩
                      · skip
                        clear HS
                        refine steps_cons ?_ ?_
                        · rintro b a w' ⟨AB_, cB_, AC_, cC_, m24_, m26_, ha, Q_HS, Q_CB, Q_CC, Q_X24_, Q_X26_⟩ hb_ hon hoff
                          refine ⟨_, rfl, fun K hK => ?_⟩
                          have e150 : a.tmps[150]? = some (.pointer (some ⟨g, 0, none⟩)) := by rw [ha]; exact (putSel_off rfl).trans rfl
                          replace ha := Aside0.mk ha
                          have HS := Aside0.mk Q_HS
                          refine goes_ Try.func13 (by kernel_rfl) rfl #[.pointer (some ⟨g, 0, none⟩)] (by rfl) rfl rfl (by first | (simp only [List.map_toArray, List.map_cons, List.map_nil, Act.eval, Array.getD_eq_getD_getElem?, Option.getD_some, e150]; done) | (simp only [List.map_toArray, List.map_cons, List.map_nil, Act.eval, Array.getD_eq_getD_getElem?, Option.getD_some, e150]; rfl)) ?_
                          with_reducible refine (next_calls (BF0.out.below HS.out)).mono ?_
                          rintro e w1n ⟨rfl, hdn⟩
                          have hbn := hdn.below
                          refine ⟨_, rfl, ?_⟩
                          refine hK.out _ _ ⟨AB_, cB_, AC_, cC_, m24_, m26_, (by rw [ha.out]; exact putSel_upk 0 hb_ rfl rfl rfl), (HS.out.trans (hbn.mono HS.out.size)), fun h0_ => absurd ((hoff 24 (by kernel_rfl)).symm.trans h0_) (by decide), fun h0_ => absurd ((hoff 26 (by kernel_rfl)).symm.trans h0_) (by decide), fun h0_ => absurd ((hoff 24 (by kernel_rfl)).symm.trans h0_) (by decide), fun h0_ => absurd ((hoff 26 (by kernel_rfl)).symm.trans h0_) (by decide)⟩
                        refine steps_cons ?_ ?_
                        · rintro b a w' ⟨AB_, cB_, AC_, cC_, m24_, m26_, ha, Q_HS, Q_CB, Q_CC, Q_X24_, Q_X26_⟩ hb_ hon hoff
                          refine ⟨_, rfl, fun K hK => ?_⟩
                          have e13 : a.tmps[13]? = some (.pointer (some ⟨w3.heap.size, 0, none⟩)) := by rw [ha]; exact (putSel_off rfl).trans rfl
                          replace ha := Aside0.mk ha
                          have HS := Aside0.mk Q_HS
                          have zz_ := blk_below Z0.out HS.out
                          have hz0_ : w'.cell? ⟨w3.heap.size, 0, none⟩ = some (.int .u32 f) := (blk_cell zz_ 0).trans rfl
                          have hz1_ : w'.cell? ⟨w3.heap.size, 1, none⟩ = some (.int .i64 room) := (blk_cell zz_ 1).trans rfl
                          have hz2_ : w'.cell? ⟨w3.heap.size, 2, none⟩ = some (.slice A D.length c) := (blk_cell zz_ 2).trans rfl
                          have hz3_ : w'.cell? ⟨w3.heap.size, 3, none⟩ = some (.int .i64 RI) := (blk_cell zz_ 3).trans rfl
                          refine value_ (w1 := w') (v := .agg #[.int .u32 f, .int .i64 room, .slice A D.length c, .int .i64 RI]) (by rfl) rfl ?_ ?_
                          · go_simp
                            (try simp only [i64_w])
                            try rfl
                          refine hK.out _ _ ⟨AB_, cB_, AC_, cC_, m24_, m26_, (by rw [ha.out]; exact putSel_upk 1 hb_ rfl rfl rfl), Q_HS, fun h0_ => absurd ((hoff 24 (by kernel_rfl)).symm.trans h0_) (by decide), fun h0_ => absurd ((hoff 26 (by kernel_rfl)).symm.trans h0_) (by decide), fun h0_ => absurd ((hoff 24 (by kernel_rfl)).symm.trans h0_) (by decide), fun h0_ => absurd ((hoff 26 (by kernel_rfl)).symm.trans h0_) (by decide)⟩
                        refine steps_cons ?_ ?_
                        · rintro b a w' ⟨AB_, cB_, AC_, cC_, m24_, m26_, ha, Q_HS, Q_CB, Q_CC, Q_X24_, Q_X26_⟩ hb_ hon hoff
                          refine ⟨_, rfl, fun K hK => ?_⟩
                          have e152 : a.tmps[152]? = some (.agg #[.int .u32 f, .int .i64 room, .slice A D.length c, .int .i64 RI]) := by rw [ha]; exact putSel_on (e := (2, 152, .agg #[.int .u32 f, .int .i64 room, .slice A D.length c, .int .i64 RI])) 1 rfl rfl (hon 2 (by kernel_rfl)) rfl
                          replace ha := Aside0.mk ha
                          have HS := Aside0.mk Q_HS
                          refine goes_ Try.func14 (by kernel_rfl) rfl #[.agg #[.int .u32 f, .int .i64 room, .slice A D.length c, .int .i64 RI]] (by rfl) rfl rfl (by first | (simp only [List.map_toArray, List.map_cons, List.map_nil, Act.eval, Array.getD_eq_getD_getElem?, Option.getD_some, e152]; done) | (simp only [List.map_toArray, List.map_cons, List.map_nil, Act.eval, Array.getD_eq_getD_getElem?, Option.getD_some, e152]; rfl)) ?_
                          with_reducible refine (patchbayref3_Recv_Next.calls 1000000 f room A c D RI _ _ (Kd.C_below CD0.out HS.out) hcD HNX.out).mono ?_
                          rintro e w1n ⟨rfl, hbn⟩
                          refine ⟨_, rfl, ?_⟩
                          refine hK.out _ _ ⟨AB_, cB_, AC_, cC_, m24_, m26_, (by rw [ha.out]; exact putSel_upk 2 hb_ rfl rfl rfl), (HS.out.trans (hbn.mono HS.out.size)), fun h0_ => absurd ((hoff 24 (by kernel_rfl)).symm.trans h0_) (by decide), fun h0_ => absurd ((hoff 26 (by kernel_rfl)).symm.trans h0_) (by decide), fun h0_ => absurd ((hoff 24 (by kernel_rfl)).symm.trans h0_) (by decide), fun h0_ => absurd ((hoff 26 (by kernel_rfl)).symm.trans h0_) (by decide)⟩
                        refine steps_cons ?_ ?_
                        · rintro b a w' ⟨AB_, cB_, AC_, cC_, m24_, m26_, ha, Q_HS, Q_CB, Q_CC, Q_X24_, Q_X26_⟩ hb_ hon hoff
                          refine ⟨_, rfl, fun K hK => ?_⟩
                          have e151 : a.tmps[151]? = some (.int .u32 nx) := by rw [ha]; exact putSel_on (e := (1, 151, .int .u32 nx)) 0 rfl rfl (hon 1 (by kernel_rfl)) rfl
                          have e153 : a.tmps[153]? = some (.int .u32 nx) := by rw [ha]; exact putSel_on (e := (3, 153, .int .u32 nx)) 2 rfl rfl (hon 3 (by kernel_rfl)) rfl
                          replace ha := Aside0.mk ha
                          have HS := Aside0.mk Q_HS
                          refine value_ (w1 := w') (v := .bool false) (by rfl) rfl ?_ ?_
                          · go_simp
                            (try simp only [i64_w])
                            try rfl
                          refine hK.out _ _ ⟨AB_, cB_, AC_, cC_, m24_, m26_, (by rw [ha.out]; exact putSel_upk 3 hb_ rfl rfl rfl), Q_HS, fun h0_ => absurd ((hoff 24 (by kernel_rfl)).symm.trans h0_) (by decide), fun h0_ => absurd ((hoff 26 (by kernel_rfl)).symm.trans h0_) (by decide), fun h0_ => absurd ((hoff 24 (by kernel_rfl)).symm.trans h0_) (by decide), fun h0_ => absurd ((hoff 26 (by kernel_rfl)).symm.trans h0_) (by decide)⟩
                        refine steps_cons ?_ ?_
                        · rintro b a w' ⟨AB_, cB_, AC_, cC_, m24_, m26_, ha, Q_HS, Q_CB, Q_CC, Q_X24_, Q_X26_⟩ hb_ hon hoff
                          refine ⟨_, rfl, fun K hK => ?_⟩
                          have e154 : a.tmps[154]? = some (.bool false) := by rw [ha]; exact putSel_on (e := (4, 154, .bool false)) 3 rfl rfl (hon 4 (by kernel_rfl)) rfl
                          replace ha := Aside0.mk ha
                          have HS := Aside0.mk Q_HS
                          refine value_ (w1 := w') (v := .bool false) (by rfl) rfl ?_ ?_
                          · go_simp
                            (try simp only [i64_w])
                            try rfl
                          refine hK.out _ _ ⟨AB_, cB_, AC_, cC_, m24_, m26_, (by rw [ha.out]; exact putSel_upk 4 hb_ rfl rfl rfl), Q_HS, fun h0_ => absurd ((hoff 24 (by kernel_rfl)).symm.trans h0_) (by decide), fun h0_ => absurd ((hoff 26 (by kernel_rfl)).symm.trans h0_) (by decide), fun h0_ => absurd ((hoff 24 (by kernel_rfl)).symm.trans h0_) (by decide), fun h0_ => absurd ((hoff 26 (by kernel_rfl)).symm.trans h0_) (by decide)⟩
                        refine steps_cons ?_ ?_
                        · rintro b a w' ⟨AB_, cB_, AC_, cC_, m24_, m26_, ha, Q_HS, Q_CB, Q_CC, Q_X24_, Q_X26_⟩ hb_ hon hoff
                          refine ⟨_, rfl, fun K hK => ?_⟩
                          have e11 : a.tmps[11]? = some (.pointer (some ⟨g, 0, none⟩)) := by rw [ha]; exact (putSel_off rfl).trans rfl
                          have e155 : a.tmps[155]? = some (.bool false) := by rw [ha]; exact putSel_on (e := (5, 155, .bool false)) 4 rfl rfl (hon 5 (by kernel_rfl)) rfl
                          replace ha := Aside0.mk ha
                          have HS := Aside0.mk Q_HS
                          refine value_ (w1 := w') (v := .pointer (some ⟨g, 0, none⟩)) (wanted_on rfl rfl rfl (e155.trans (by first | rfl | (simp [*]; done)))) rfl ?_ ?_
                          · go_simp
                            (try simp only [i64_w])
                            try rfl
                          refine hK.out _ _ ⟨AB_, cB_, AC_, cC_, m24_, m26_, (by rw [ha.out]; exact putSel_upk 5 hb_ rfl rfl rfl), Q_HS, fun h0_ => absurd ((hoff 24 (by kernel_rfl)).symm.trans h0_) (by decide), fun h0_ => absurd ((hoff 26 (by kernel_rfl)).symm.trans h0_) (by decide), fun h0_ => absurd ((hoff 24 (by kernel_rfl)).symm.trans h0_) (by decide), fun h0_ => absurd ((hoff 26 (by kernel_rfl)).symm.trans h0_) (by decide)⟩
                        refine steps_cons ?_ ?_
                        · rintro b a w' ⟨AB_, cB_, AC_, cC_, m24_, m26_, ha, Q_HS, Q_CB, Q_CC, Q_X24_, Q_X26_⟩ hb_ hon hoff
                          refine ⟨_, rfl, fun K hK => ?_⟩
                          have e156 : a.tmps[156]? = some (.pointer (some ⟨g, 0, none⟩)) := by rw [ha]; exact putSel_on (e := (6, 156, .pointer (some ⟨g, 0, none⟩))) 5 rfl rfl (hon 6 (by kernel_rfl)) rfl
                          have e155 : a.tmps[155]? = some (.bool false) := by rw [ha]; exact putSel_on (e := (5, 155, .bool false)) 4 rfl rfl (hon 5 (by kernel_rfl)) rfl
                          replace ha := Aside0.mk ha
                          have HS := Aside0.mk Q_HS
                          refine goes_ Try.func15 (by kernel_rfl) rfl #[.pointer (some ⟨g, 0, none⟩)] (wanted_on rfl rfl rfl (e155.trans (by first | rfl | (simp [*]; done)))) rfl rfl (by first | (simp only [List.map_toArray, List.map_cons, List.map_nil, Act.eval, Array.getD_eq_getD_getElem?, Option.getD_some, e156, e155]; done) | (simp only [List.map_toArray, List.map_cons, List.map_nil, Act.eval, Array.getD_eq_getD_getElem?, Option.getD_some, e156, e155]; rfl)) ?_
                          with_reducible refine (window_calls (BF0.out.below HS.out) hrm hdl6).mono ?_
                          rintro e w1n ⟨rfl, hdn⟩
                          rw [HRL.out]
                          have hbn := hdn.below
                          refine ⟨_, rfl, ?_⟩
                          refine hK.out _ _ ⟨AB_, cB_, AC_, cC_, m24_, m26_, (by rw [ha.out]; exact putSel_upk 6 hb_ rfl rfl rfl), (HS.out.trans (hbn.mono HS.out.size)), fun h0_ => absurd ((hoff 24 (by kernel_rfl)).symm.trans h0_) (by decide), fun h0_ => absurd ((hoff 26 (by kernel_rfl)).symm.trans h0_) (by decide), fun h0_ => absurd ((hoff 24 (by kernel_rfl)).symm.trans h0_) (by decide), fun h0_ => absurd ((hoff 26 (by kernel_rfl)).symm.trans h0_) (by decide)⟩
                        refine steps_cons ?_ ?_
                        · rintro b a w' ⟨AB_, cB_, AC_, cC_, m24_, m26_, ha, Q_HS, Q_CB, Q_CC, Q_X24_, Q_X26_⟩ hb_ hon hoff
                          refine ⟨_, rfl, fun K hK => ?_⟩
                          have e13 : a.tmps[13]? = some (.pointer (some ⟨w3.heap.size, 0, none⟩)) := by rw [ha]; exact (putSel_off rfl).trans rfl
                          have e155 : a.tmps[155]? = some (.bool false) := by rw [ha]; exact putSel_on (e := (5, 155, .bool false)) 4 rfl rfl (hon 5 (by kernel_rfl)) rfl
                          replace ha := Aside0.mk ha
                          have HS := Aside0.mk Q_HS
                          have zz_ := blk_below Z0.out HS.out
                          have hz0_ : w'.cell? ⟨w3.heap.size, 0, none⟩ = some (.int .u32 f) := (blk_cell zz_ 0).trans rfl
                          have hz1_ : w'.cell? ⟨w3.heap.size, 1, none⟩ = some (.int .i64 room) := (blk_cell zz_ 1).trans rfl
                          have hz2_ : w'.cell? ⟨w3.heap.size, 2, none⟩ = some (.slice A D.length c) := (blk_cell zz_ 2).trans rfl
                          have hz3_ : w'.cell? ⟨w3.heap.size, 3, none⟩ = some (.int .i64 RI) := (blk_cell zz_ 3).trans rfl
                          refine value_ (w1 := w') (v := .agg #[.int .u32 f, .int .i64 room, .slice A D.length c, .int .i64 RI]) (wanted_on rfl rfl rfl (e155.trans (by first | rfl | (simp [*]; done)))) rfl ?_ ?_
                          · go_simp
                            (try simp only [i64_w])
                            try rfl
                          refine hK.out _ _ ⟨AB_, cB_, AC_, cC_, m24_, m26_, (by rw [ha.out]; exact putSel_upk 7 hb_ rfl rfl rfl), Q_HS, fun h0_ => absurd ((hoff 24 (by kernel_rfl)).symm.trans h0_) (by decide), fun h0_ => absurd ((hoff 26 (by kernel_rfl)).symm.trans h0_) (by decide), fun h0_ => absurd ((hoff 24 (by kernel_rfl)).symm.trans h0_) (by decide), fun h0_ => absurd ((hoff 26 (by kernel_rfl)).symm.trans h0_) (by decide)⟩
                        refine steps_cons ?_ ?_
                        · rintro b a w' ⟨AB_, cB_, AC_, cC_, m24_, m26_, ha, Q_HS, Q_CB, Q_CC, Q_X24_, Q_X26_⟩ hb_ hon hoff
                          refine ⟨_, rfl, fun K hK => ?_⟩
                          have e158 : a.tmps[158]? = some (.agg #[.int .u32 f, .int .i64 room, .slice A D.length c, .int .i64 RI]) := by rw [ha]; exact putSel_on (e := (8, 158, .agg #[.int .u32 f, .int .i64 room, .slice A D.length c, .int .i64 RI])) 7 rfl rfl (hon 8 (by kernel_rfl)) rfl
                          have e155 : a.tmps[155]? = some (.bool false) := by rw [ha]; exact putSel_on (e := (5, 155, .bool false)) 4 rfl rfl (hon 5 (by kernel_rfl)) rfl
                          replace ha := Aside0.mk ha
                          have HS := Aside0.mk Q_HS
                          refine goes_ Try.func16 (by kernel_rfl) rfl #[.agg #[.int .u32 f, .int .i64 room, .slice A D.length c, .int .i64 RI]] (wanted_on rfl rfl rfl (e155.trans (by first | rfl | (simp [*]; done)))) rfl rfl (by first | (simp only [List.map_toArray, List.map_cons, List.map_nil, Act.eval, Array.getD_eq_getD_getElem?, Option.getD_some, e158, e155]; done) | (simp only [List.map_toArray, List.map_cons, List.map_nil, Act.eval, Array.getD_eq_getD_getElem?, Option.getD_some, e158, e155]; rfl)) ?_
                          with_reducible refine (patchbayref3_Recv_Window.calls 1000000 f room A c D RI _ _ (Kd.C_below CD0.out HS.out) hcD HWV.out).mono ?_
                          rintro e w1n ⟨rfl, hbn⟩
                          refine ⟨_, rfl, ?_⟩
                          refine hK.out _ _ ⟨AB_, cB_, AC_, cC_, m24_, m26_, (by rw [ha.out]; exact putSel_upk 8 hb_ rfl rfl rfl), (HS.out.trans (hbn.mono HS.out.size)), fun h0_ => absurd ((hoff 24 (by kernel_rfl)).symm.trans h0_) (by decide), fun h0_ => absurd ((hoff 26 (by kernel_rfl)).symm.trans h0_) (by decide), fun h0_ => absurd ((hoff 24 (by kernel_rfl)).symm.trans h0_) (by decide), fun h0_ => absurd ((hoff 26 (by kernel_rfl)).symm.trans h0_) (by decide)⟩
                        refine steps_cons ?_ ?_
                        · rintro b a w' ⟨AB_, cB_, AC_, cC_, m24_, m26_, ha, Q_HS, Q_CB, Q_CC, Q_X24_, Q_X26_⟩ hb_ hon hoff
                          refine ⟨_, rfl, fun K hK => ?_⟩
                          have e157 : a.tmps[157]? = some (.int .i64 (room - rl)) := by rw [ha]; exact putSel_on (e := (7, 157, .int .i64 (room - rl))) 6 rfl rfl (hon 7 (by kernel_rfl)) rfl
                          have e159 : a.tmps[159]? = some (.int .i64 (room - rl)) := by rw [ha]; exact putSel_on (e := (9, 159, .int .i64 (room - rl))) 8 rfl rfl (hon 9 (by kernel_rfl)) rfl
                          have e155 : a.tmps[155]? = some (.bool false) := by rw [ha]; exact putSel_on (e := (5, 155, .bool false)) 4 rfl rfl (hon 5 (by kernel_rfl)) rfl
                          replace ha := Aside0.mk ha
                          have HS := Aside0.mk Q_HS
                          refine value_ (w1 := w') (v := .bool false) (wanted_on rfl rfl rfl (e155.trans (by first | rfl | (simp [*]; done)))) rfl ?_ ?_
                          · go_simp
                            (try simp only [i64_w])
                            try rfl
                          refine hK.out _ _ ⟨AB_, cB_, AC_, cC_, m24_, m26_, (by rw [ha.out]; exact putSel_upk 9 hb_ rfl rfl rfl), Q_HS, fun h0_ => absurd ((hoff 24 (by kernel_rfl)).symm.trans h0_) (by decide), fun h0_ => absurd ((hoff 26 (by kernel_rfl)).symm.trans h0_) (by decide), fun h0_ => absurd ((hoff 24 (by kernel_rfl)).symm.trans h0_) (by decide), fun h0_ => absurd ((hoff 26 (by kernel_rfl)).symm.trans h0_) (by decide)⟩
                        refine steps_cons ?_ ?_
                        · rintro b a w' ⟨AB_, cB_, AC_, cC_, m24_, m26_, ha, Q_HS, Q_CB, Q_CC, Q_X24_, Q_X26_⟩ hb_ hon hoff
                          refine ⟨_, rfl, fun K hK => ?_⟩
                          have e155 : a.tmps[155]? = some (.bool false) := by rw [ha]; exact putSel_on (e := (5, 155, .bool false)) 4 rfl rfl (hon 5 (by kernel_rfl)) rfl
                          have e160 : a.tmps[160]? = some (.bool false) := by rw [ha]; exact putSel_on (e := (10, 160, .bool false)) 9 rfl rfl (hon 10 (by kernel_rfl)) rfl
                          replace ha := Aside0.mk ha
                          have HS := Aside0.mk Q_HS
                          refine value_ (w1 := w') (v := .bool false) (by rfl) rfl ?_ ?_
                          · go_simp
                            (try simp only [i64_w])
                            try rfl
                          refine hK.out _ _ ⟨AB_, cB_, AC_, cC_, m24_, m26_, (by rw [ha.out]; exact putSel_upk 10 hb_ rfl rfl rfl), Q_HS, fun h0_ => absurd ((hoff 24 (by kernel_rfl)).symm.trans h0_) (by decide), fun h0_ => absurd ((hoff 26 (by kernel_rfl)).symm.trans h0_) (by decide), fun h0_ => absurd ((hoff 24 (by kernel_rfl)).symm.trans h0_) (by decide), fun h0_ => absurd ((hoff 26 (by kernel_rfl)).symm.trans h0_) (by decide)⟩
                        refine steps_cons ?_ ?_
                        · rintro b a w' ⟨AB_, cB_, AC_, cC_, m24_, m26_, ha, Q_HS, Q_CB, Q_CC, Q_X24_, Q_X26_⟩ hb_ hon hoff
                          refine ⟨_, rfl, fun K hK => ?_⟩
                          have e161 : a.tmps[161]? = some (.bool false) := by rw [ha]; exact putSel_on (e := (11, 161, .bool false)) 10 rfl rfl (hon 11 (by kernel_rfl)) rfl
                          replace ha := Aside0.mk ha
                          have HS := Aside0.mk Q_HS
                          refine value_ (w1 := w') (v := .bool false) (by rfl) rfl ?_ ?_
                          · go_simp
                            (try simp only [i64_w])
                            try rfl
                          refine hK.out _ _ ⟨AB_, cB_, AC_, cC_, m24_, m26_, (by rw [ha.out]; exact putSel_upk 11 hb_ rfl rfl rfl), Q_HS, fun h0_ => absurd ((hoff 24 (by kernel_rfl)).symm.trans h0_) (by decide), fun h0_ => absurd ((hoff 26 (by kernel_rfl)).symm.trans h0_) (by decide), fun h0_ => absurd ((hoff 24 (by kernel_rfl)).symm.trans h0_) (by decide), fun h0_ => absurd ((hoff 26 (by kernel_rfl)).symm.trans h0_) (by decide)⟩
                        refine steps_cons ?_ ?_
                        · rintro b a w' ⟨AB_, cB_, AC_, cC_, m24_, m26_, ha, Q_HS, Q_CB, Q_CC, Q_X24_, Q_X26_⟩ hb_ hon hoff
                          refine ⟨_, rfl, fun K hK => ?_⟩
                          have e11 : a.tmps[11]? = some (.pointer (some ⟨g, 0, none⟩)) := by rw [ha]; exact (putSel_off rfl).trans rfl
                          have e162 : a.tmps[162]? = some (.bool false) := by rw [ha]; exact putSel_on (e := (12, 162, .bool false)) 11 rfl rfl (hon 12 (by kernel_rfl)) rfl
                          replace ha := Aside0.mk ha
                          have HS := Aside0.mk Q_HS
                          refine value_ (w1 := w') (v := .pointer (some ⟨g, 0, none⟩)) (wanted_on rfl rfl rfl (e162.trans (by first | rfl | (simp [*]; done)))) rfl ?_ ?_
                          · go_simp
                            (try simp only [i64_w])
                            try rfl
                          refine hK.out _ _ ⟨AB_, cB_, AC_, cC_, m24_, m26_, (by rw [ha.out]; exact putSel_upk 12 hb_ rfl rfl rfl), Q_HS, fun h0_ => absurd ((hoff 24 (by kernel_rfl)).symm.trans h0_) (by decide), fun h0_ => absurd ((hoff 26 (by kernel_rfl)).symm.trans h0_) (by decide), fun h0_ => absurd ((hoff 24 (by kernel_rfl)).symm.trans h0_) (by decide), fun h0_ => absurd ((hoff 26 (by kernel_rfl)).symm.trans h0_) (by decide)⟩
                        refine steps_cons ?_ ?_
                        · rintro b a w' ⟨AB_, cB_, AC_, cC_, m24_, m26_, ha, Q_HS, Q_CB, Q_CC, Q_X24_, Q_X26_⟩ hb_ hon hoff
                          refine ⟨_, rfl, fun K hK => ?_⟩
                          have e163 : a.tmps[163]? = some (.pointer (some ⟨g, 0, none⟩)) := by rw [ha]; exact putSel_on (e := (13, 163, .pointer (some ⟨g, 0, none⟩))) 12 rfl rfl (hon 13 (by kernel_rfl)) rfl
                          have e162 : a.tmps[162]? = some (.bool false) := by rw [ha]; exact putSel_on (e := (12, 162, .bool false)) 11 rfl rfl (hon 12 (by kernel_rfl)) rfl
                          replace ha := Aside0.mk ha
                          have HS := Aside0.mk Q_HS
                          refine goes_ Try.func17 (by kernel_rfl) rfl #[.pointer (some ⟨g, 0, none⟩)] (wanted_on rfl rfl rfl (e162.trans (by first | rfl | (simp [*]; done)))) rfl rfl (by first | (simp only [List.map_toArray, List.map_cons, List.map_nil, Act.eval, Array.getD_eq_getD_getElem?, Option.getD_some, e163, e162]; done) | (simp only [List.map_toArray, List.map_cons, List.map_nil, Act.eval, Array.getD_eq_getD_getElem?, Option.getD_some, e163, e162]; rfl)) ?_
                          with_reducible refine (ready_calls (BF0.out.below HS.out)).mono ?_
                          rintro e w1n ⟨rfl, hdn⟩
                          rw [HRL.out]
                          have hbn := hdn.below
                          refine ⟨_, rfl, ?_⟩
                          refine hK.out _ _ ⟨AB_, cB_, AC_, cC_, m24_, m26_, (by rw [ha.out]; exact putSel_upk 13 hb_ rfl rfl rfl), (HS.out.trans (hbn.mono HS.out.size)), fun h0_ => absurd ((hoff 24 (by kernel_rfl)).symm.trans h0_) (by decide), fun h0_ => absurd ((hoff 26 (by kernel_rfl)).symm.trans h0_) (by decide), fun h0_ => absurd ((hoff 24 (by kernel_rfl)).symm.trans h0_) (by decide), fun h0_ => absurd ((hoff 26 (by kernel_rfl)).symm.trans h0_) (by decide)⟩
                        refine steps_cons ?_ ?_
                        · rintro b a w' ⟨AB_, cB_, AC_, cC_, m24_, m26_, ha, Q_HS, Q_CB, Q_CC, Q_X24_, Q_X26_⟩ hb_ hon hoff
                          refine ⟨_, rfl, fun K hK => ?_⟩
                          have e13 : a.tmps[13]? = some (.pointer (some ⟨w3.heap.size, 0, none⟩)) := by rw [ha]; exact (putSel_off rfl).trans rfl
                          have e162 : a.tmps[162]? = some (.bool false) := by rw [ha]; exact putSel_on (e := (12, 162, .bool false)) 11 rfl rfl (hon 12 (by kernel_rfl)) rfl
                          replace ha := Aside0.mk ha
                          have HS := Aside0.mk Q_HS
                          have zz_ := blk_below Z0.out HS.out
                          have hz0_ : w'.cell? ⟨w3.heap.size, 0, none⟩ = some (.int .u32 f) := (blk_cell zz_ 0).trans rfl
                          have hz1_ : w'.cell? ⟨w3.heap.size, 1, none⟩ = some (.int .i64 room) := (blk_cell zz_ 1).trans rfl
                          have hz2_ : w'.cell? ⟨w3.heap.size, 2, none⟩ = some (.slice A D.length c) := (blk_cell zz_ 2).trans rfl
                          have hz3_ : w'.cell? ⟨w3.heap.size, 3, none⟩ = some (.int .i64 RI) := (blk_cell zz_ 3).trans rfl
                          refine value_ (w1 := w') (v := .agg #[.int .u32 f, .int .i64 room, .slice A D.length c, .int .i64 RI]) (wanted_on rfl rfl rfl (e162.trans (by first | rfl | (simp [*]; done)))) rfl ?_ ?_
                          · go_simp
                            (try simp only [i64_w])
                            try rfl
                          refine hK.out _ _ ⟨AB_, cB_, AC_, cC_, m24_, m26_, (by rw [ha.out]; exact putSel_upk 14 hb_ rfl rfl rfl), Q_HS, fun h0_ => absurd ((hoff 24 (by kernel_rfl)).symm.trans h0_) (by decide), fun h0_ => absurd ((hoff 26 (by kernel_rfl)).symm.trans h0_) (by decide), fun h0_ => absurd ((hoff 24 (by kernel_rfl)).symm.trans h0_) (by decide), fun h0_ => absurd ((hoff 26 (by kernel_rfl)).symm.trans h0_) (by decide)⟩
                        refine steps_cons ?_ ?_
                        · rintro b a w' ⟨AB_, cB_, AC_, cC_, m24_, m26_, ha, Q_HS, Q_CB, Q_CC, Q_X24_, Q_X26_⟩ hb_ hon hoff
                          refine ⟨_, rfl, fun K hK => ?_⟩
                          have e165 : a.tmps[165]? = some (.agg #[.int .u32 f, .int .i64 room, .slice A D.length c, .int .i64 RI]) := by rw [ha]; exact putSel_on (e := (15, 165, .agg #[.int .u32 f, .int .i64 room, .slice A D.length c, .int .i64 RI])) 14 rfl rfl (hon 15 (by kernel_rfl)) rfl
                          have e162 : a.tmps[162]? = some (.bool false) := by rw [ha]; exact putSel_on (e := (12, 162, .bool false)) 11 rfl rfl (hon 12 (by kernel_rfl)) rfl
                          replace ha := Aside0.mk ha
                          have HS := Aside0.mk Q_HS
                          refine goes_ Try.func18 (by kernel_rfl) rfl #[.agg #[.int .u32 f, .int .i64 room, .slice A D.length c, .int .i64 RI]] (wanted_on rfl rfl rfl (e162.trans (by first | rfl | (simp [*]; done)))) rfl rfl (by first | (simp only [List.map_toArray, List.map_cons, List.map_nil, Act.eval, Array.getD_eq_getD_getElem?, Option.getD_some, e165, e162]; done) | (simp only [List.map_toArray, List.map_cons, List.map_nil, Act.eval, Array.getD_eq_getD_getElem?, Option.getD_some, e165, e162]; rfl)) ?_
                          with_reducible refine (patchbayref3_Recv_Got.calls 1000000 f room A c D RI _ _ (Kd.C_below CD0.out HS.out) hcD HGT.out).mono ?_
                          rintro e w1n ⟨rfl, hbn⟩
                          refine ⟨_, rfl, ?_⟩
                          refine hK.out _ _ ⟨AB_, cB_, AC_, cC_, m24_, m26_, (by rw [ha.out]; exact putSel_upk 15 hb_ rfl rfl rfl), (HS.out.trans (hbn.mono HS.out.size)), fun h0_ => absurd ((hoff 24 (by kernel_rfl)).symm.trans h0_) (by decide), fun h0_ => absurd ((hoff 26 (by kernel_rfl)).symm.trans h0_) (by decide), fun h0_ => absurd ((hoff 24 (by kernel_rfl)).symm.trans h0_) (by decide), fun h0_ => absurd ((hoff 26 (by kernel_rfl)).symm.trans h0_) (by decide)⟩
                        refine steps_cons ?_ ?_
                        · rintro b a w' ⟨AB_, cB_, AC_, cC_, m24_, m26_, ha, Q_HS, Q_CB, Q_CC, Q_X24_, Q_X26_⟩ hb_ hon hoff
                          refine ⟨_, rfl, fun K hK => ?_⟩
                          have e13 : a.tmps[13]? = some (.pointer (some ⟨w3.heap.size, 0, none⟩)) := by rw [ha]; exact (putSel_off rfl).trans rfl
                          have e162 : a.tmps[162]? = some (.bool false) := by rw [ha]; exact putSel_on (e := (12, 162, .bool false)) 11 rfl rfl (hon 12 (by kernel_rfl)) rfl
                          replace ha := Aside0.mk ha
                          have HS := Aside0.mk Q_HS
                          refine value_ (w1 := w') (v := .pointer (some ⟨w3.heap.size, 3, none⟩)) (wanted_on rfl rfl rfl (e162.trans (by first | rfl | (simp [*]; done)))) rfl ?_ ?_
                          · go_simp
                            (try simp only [i64_w])
                            try rfl
                          refine hK.out _ _ ⟨AB_, cB_, AC_, cC_, m24_, m26_, (by rw [ha.out]; exact putSel_upk 16 hb_ rfl rfl rfl), Q_HS, fun h0_ => absurd ((hoff 24 (by kernel_rfl)).symm.trans h0_) (by decide), fun h0_ => absurd ((hoff 26 (by kernel_rfl)).symm.trans h0_) (by decide), fun h0_ => absurd ((hoff 24 (by kernel_rfl)).symm.trans h0_) (by decide), fun h0_ => absurd ((hoff 26 (by kernel_rfl)).symm.trans h0_) (by decide)⟩
                        refine steps_cons ?_ ?_
                        · rintro b a w' ⟨AB_, cB_, AC_, cC_, m24_, m26_, ha, Q_HS, Q_CB, Q_CC, Q_X24_, Q_X26_⟩ hb_ hon hoff
                          refine ⟨_, rfl, fun K hK => ?_⟩
                          have e167 : a.tmps[167]? = some (.pointer (some ⟨w3.heap.size, 3, none⟩)) := by rw [ha]; exact putSel_on (e := (17, 167, .pointer (some ⟨w3.heap.size, 3, none⟩))) 16 rfl rfl (hon 17 (by kernel_rfl)) rfl
                          have e162 : a.tmps[162]? = some (.bool false) := by rw [ha]; exact putSel_on (e := (12, 162, .bool false)) 11 rfl rfl (hon 12 (by kernel_rfl)) rfl
                          replace ha := Aside0.mk ha
                          have HS := Aside0.mk Q_HS
                          have zz_ := blk_below Z0.out HS.out
                          have hz0_ : w'.cell? ⟨w3.heap.size, 0, none⟩ = some (.int .u32 f) := (blk_cell zz_ 0).trans rfl
                          have hz1_ : w'.cell? ⟨w3.heap.size, 1, none⟩ = some (.int .i64 room) := (blk_cell zz_ 1).trans rfl
                          have hz2_ : w'.cell? ⟨w3.heap.size, 2, none⟩ = some (.slice A D.length c) := (blk_cell zz_ 2).trans rfl
                          have hz3_ : w'.cell? ⟨w3.heap.size, 3, none⟩ = some (.int .i64 RI) := (blk_cell zz_ 3).trans rfl
                          refine value_ (w1 := w') (v := .int .i64 RI) (wanted_on rfl rfl rfl (e162.trans (by first | rfl | (simp [*]; done)))) rfl ?_ ?_
                          · go_simp
                            (try simp only [i64_w])
                            try rfl
                          refine hK.out _ _ ⟨AB_, cB_, AC_, cC_, m24_, m26_, (by rw [ha.out]; exact putSel_upk 17 hb_ rfl rfl rfl), Q_HS, fun h0_ => absurd ((hoff 24 (by kernel_rfl)).symm.trans h0_) (by decide), fun h0_ => absurd ((hoff 26 (by kernel_rfl)).symm.trans h0_) (by decide), fun h0_ => absurd ((hoff 24 (by kernel_rfl)).symm.trans h0_) (by decide), fun h0_ => absurd ((hoff 26 (by kernel_rfl)).symm.trans h0_) (by decide)⟩
                        refine steps_cons ?_ ?_
                        · rintro b a w' ⟨AB_, cB_, AC_, cC_, m24_, m26_, ha, Q_HS, Q_CB, Q_CC, Q_X24_, Q_X26_⟩ hb_ hon hoff
                          refine ⟨_, rfl, fun K hK => ?_⟩
                          have e166 : a.tmps[166]? = some (.int .i64 GI) := by rw [ha]; exact putSel_on (e := (16, 166, .int .i64 GI)) 15 rfl rfl (hon 16 (by kernel_rfl)) rfl
                          have e168 : a.tmps[168]? = some (.int .i64 RI) := by rw [ha]; exact putSel_on (e := (18, 168, .int .i64 RI)) 17 rfl rfl (hon 18 (by kernel_rfl)) rfl
                          have e162 : a.tmps[162]? = some (.bool false) := by rw [ha]; exact putSel_on (e := (12, 162, .bool false)) 11 rfl rfl (hon 12 (by kernel_rfl)) rfl
                          replace ha := Aside0.mk ha
                          have HS := Aside0.mk Q_HS
                          refine value_ (w1 := w') (v := .int .i64 rl) (wanted_on rfl rfl rfl (e162.trans (by first | rfl | (simp [*]; done)))) rfl ?_ ?_
                          · go_simp
                            (try simp only [i64_w])
                            first | rfl | exact hwr
                          refine hK.out _ _ ⟨AB_, cB_, AC_, cC_, m24_, m26_, (by rw [ha.out]; exact putSel_upk 18 hb_ rfl rfl rfl), HS.out, fun h0_ => absurd ((hoff 24 (by kernel_rfl)).symm.trans h0_) (by decide), fun h0_ => absurd ((hoff 26 (by kernel_rfl)).symm.trans h0_) (by decide), fun h0_ => absurd ((hoff 24 (by kernel_rfl)).symm.trans h0_) (by decide), fun h0_ => absurd ((hoff 26 (by kernel_rfl)).symm.trans h0_) (by decide)⟩
                        refine steps_cons ?_ ?_
                        · rintro b a w' ⟨AB_, cB_, AC_, cC_, m24_, m26_, ha, Q_HS, Q_CB, Q_CC, Q_X24_, Q_X26_⟩ hb_ hon hoff
                          refine ⟨_, rfl, fun K hK => ?_⟩
                          have e164 : a.tmps[164]? = some (.int .i64 rl) := by rw [ha]; exact putSel_on (e := (14, 164, .int .i64 rl)) 13 rfl rfl (hon 14 (by kernel_rfl)) rfl
                          have e169 : a.tmps[169]? = some (.int .i64 rl) := by rw [ha]; exact putSel_on (e := (19, 169, .int .i64 rl)) 18 rfl rfl (hon 19 (by kernel_rfl)) rfl
                          have e162 : a.tmps[162]? = some (.bool false) := by rw [ha]; exact putSel_on (e := (12, 162, .bool false)) 11 rfl rfl (hon 12 (by kernel_rfl)) rfl
                          replace ha := Aside0.mk ha
                          have HS := Aside0.mk Q_HS
                          refine value_ (w1 := w') (v := .bool false) (wanted_on rfl rfl rfl (e162.trans (by first | rfl | (simp [*]; done)))) rfl ?_ ?_
                          · go_simp
                            (try simp only [i64_w])
                            try rfl
                          refine hK.out _ _ ⟨AB_, cB_, AC_, cC_, m24_, m26_, (by rw [ha.out]; exact putSel_upk 19 hb_ rfl rfl rfl), Q_HS, fun h0_ => absurd ((hoff 24 (by kernel_rfl)).symm.trans h0_) (by decide), fun h0_ => absurd ((hoff 26 (by kernel_rfl)).symm.trans h0_) (by decide), fun h0_ => absurd ((hoff 24 (by kernel_rfl)).symm.trans h0_) (by decide), fun h0_ => absurd ((hoff 26 (by kernel_rfl)).symm.trans h0_) (by decide)⟩
                        refine steps_cons ?_ ?_
                        · rintro b a w' ⟨AB_, cB_, AC_, cC_, m24_, m26_, ha, Q_HS, Q_CB, Q_CC, Q_X24_, Q_X26_⟩ hb_ hon hoff
                          refine ⟨_, rfl, fun K hK => ?_⟩
                          have e162 : a.tmps[162]? = some (.bool false) := by rw [ha]; exact putSel_on (e := (12, 162, .bool false)) 11 rfl rfl (hon 12 (by kernel_rfl)) rfl
                          have e170 : a.tmps[170]? = some (.bool false) := by rw [ha]; exact putSel_on (e := (20, 170, .bool false)) 19 rfl rfl (hon 20 (by kernel_rfl)) rfl
                          replace ha := Aside0.mk ha
                          have HS := Aside0.mk Q_HS
                          refine value_ (w1 := w') (v := .bool false) (by rfl) rfl ?_ ?_
                          · go_simp
                            (try simp only [i64_w])
                            try rfl
                          refine hK.out _ _ ⟨AB_, cB_, AC_, cC_, m24_, m26_, (by rw [ha.out]; exact putSel_upk 20 hb_ rfl rfl rfl), Q_HS, fun h0_ => absurd ((hoff 24 (by kernel_rfl)).symm.trans h0_) (by decide), fun h0_ => absurd ((hoff 26 (by kernel_rfl)).symm.trans h0_) (by decide), fun h0_ => absurd ((hoff 24 (by kernel_rfl)).symm.trans h0_) (by decide), fun h0_ => absurd ((hoff 26 (by kernel_rfl)).symm.trans h0_) (by decide)⟩
                        refine steps_cons ?_ ?_
                        · rintro b a w' ⟨AB_, cB_, AC_, cC_, m24_, m26_, ha, Q_HS, Q_CB, Q_CC, Q_X24_, Q_X26_⟩ hb_ hon hoff
                          refine ⟨_, rfl, fun K hK => ?_⟩
                          have e171 : a.tmps[171]? = some (.bool false) := by rw [ha]; exact putSel_on (e := (21, 171, .bool false)) 20 rfl rfl (hon 21 (by kernel_rfl)) rfl
                          replace ha := Aside0.mk ha
                          have HS := Aside0.mk Q_HS
                          refine value_ (w1 := w') (v := .bool false) (by rfl) rfl ?_ ?_
                          · go_simp
                            (try simp only [i64_w])
                            try rfl
                          refine hK.out _ _ ⟨AB_, cB_, AC_, cC_, m24_, m26_, (by rw [ha.out]; exact putSel_upk 21 hb_ rfl rfl rfl), Q_HS, fun h0_ => absurd ((hoff 24 (by kernel_rfl)).symm.trans h0_) (by decide), fun h0_ => absurd ((hoff 26 (by kernel_rfl)).symm.trans h0_) (by decide), fun h0_ => absurd ((hoff 24 (by kernel_rfl)).symm.trans h0_) (by decide), fun h0_ => absurd ((hoff 26 (by kernel_rfl)).symm.trans h0_) (by decide)⟩
                        refine steps_cons ?_ ?_
                        · rintro b a w' ⟨AB_, cB_, AC_, cC_, m24_, m26_, ha, Q_HS, Q_CB, Q_CC, Q_X24_, Q_X26_⟩ hb_ hon hoff
                          refine ⟨_, rfl, fun K hK => ?_⟩
                          have e11 : a.tmps[11]? = some (.pointer (some ⟨g, 0, none⟩)) := by rw [ha]; exact (putSel_off rfl).trans rfl
                          have e172 : a.tmps[172]? = some (.bool false) := by rw [ha]; exact putSel_on (e := (22, 172, .bool false)) 21 rfl rfl (hon 22 (by kernel_rfl)) rfl
                          replace ha := Aside0.mk ha
                          have HS := Aside0.mk Q_HS
                          refine value_ (w1 := w') (v := .pointer (some ⟨g, 0, none⟩)) (wanted_on rfl rfl rfl (e172.trans (by first | rfl | (simp [*]; done)))) rfl ?_ ?_
                          · go_simp
                            (try simp only [i64_w])
                            try rfl
                          refine hK.out _ _ ⟨AB_, cB_, AC_, cC_, m24_, m26_, (by rw [ha.out]; exact putSel_upk 22 hb_ rfl rfl rfl), Q_HS, fun h0_ => absurd ((hoff 24 (by kernel_rfl)).symm.trans h0_) (by decide), fun h0_ => absurd ((hoff 26 (by kernel_rfl)).symm.trans h0_) (by decide), fun h0_ => absurd ((hoff 24 (by kernel_rfl)).symm.trans h0_) (by decide), fun h0_ => absurd ((hoff 26 (by kernel_rfl)).symm.trans h0_) (by decide)⟩
                        refine steps_cons ?_ ?_
                        · rintro b a w' ⟨AB_, cB_, AC_, cC_, m24_, m26_, ha, Q_HS, Q_CB, Q_CC, Q_X24_, Q_X26_⟩ hb_ hon hoff
                          refine ⟨_, rfl, fun K hK => ?_⟩
                          have e173 : a.tmps[173]? = some (.pointer (some ⟨g, 0, none⟩)) := by rw [ha]; exact putSel_on (e := (23, 173, .pointer (some ⟨g, 0, none⟩))) 22 rfl rfl (hon 23 (by kernel_rfl)) rfl
                          have e172 : a.tmps[172]? = some (.bool false) := by rw [ha]; exact putSel_on (e := (22, 172, .bool false)) 21 rfl rfl (hon 22 (by kernel_rfl)) rfl
                          replace ha := Aside0.mk ha
                          have HS := Aside0.mk Q_HS
                          refine goes_ Try.func20 (by kernel_rfl) rfl #[.pointer (some ⟨g, 0, none⟩)] (wanted_on rfl rfl rfl (e172.trans (by first | rfl | (simp [*]; done)))) rfl rfl (by first | (simp only [List.map_toArray, List.map_cons, List.map_nil, Act.eval, Array.getD_eq_getD_getElem?, Option.getD_some, e173, e172]; done) | (simp only [List.map_toArray, List.map_cons, List.map_nil, Act.eval, Array.getD_eq_getD_getElem?, Option.getD_some, e173, e172]; rfl)) ?_
                          with_reducible refine (blocks_calls (w0 := w1) (BF0.out.below HS.out) hth6 hnx).mono ?_
                          rintro e w1n ⟨vbn, rfl, hqn, hbn⟩
                          rw [HLB.out] at hqn
                          obtain ⟨ABn, cBn, rfl, hcn⟩ := q_slice hqn
                          refine ⟨_, rfl, ?_⟩
                          refine hK.out _ _ ⟨ABn, cBn, AC_, cC_, (.slice ABn l.length cBn), m26_, (by rw [ha.out]; exact putSel_upk 23 hb_ rfl rfl rfl), (HS.out.trans (hbn.mono HS.out.size)), fun _ => ⟨hcn, c74_of_q hqn⟩, fun h0_ => absurd ((hoff 26 (by kernel_rfl)).symm.trans h0_) (by decide), fun _ => rfl, fun h0_ => absurd ((hoff 26 (by kernel_rfl)).symm.trans h0_) (by decide)⟩
                        refine steps_cons ?_ ?_
                        · rintro b a w' ⟨AB_, cB_, AC_, cC_, m24_, m26_, ha, Q_HS, Q_CB, Q_CC, Q_X24_, Q_X26_⟩ hb_ hon hoff
                          refine ⟨_, rfl, fun K hK => ?_⟩
                          have e13 : a.tmps[13]? = some (.pointer (some ⟨w3.heap.size, 0, none⟩)) := by rw [ha]; exact (putSel_off rfl).trans rfl
                          have e172 : a.tmps[172]? = some (.bool false) := by rw [ha]; exact putSel_on (e := (22, 172, .bool false)) 21 rfl rfl (hon 22 (by kernel_rfl)) rfl
                          replace ha := Aside0.mk ha
                          have HS := Aside0.mk Q_HS
                          have zz_ := blk_below Z0.out HS.out
                          have hz0_ : w'.cell? ⟨w3.heap.size, 0, none⟩ = some (.int .u32 f) := (blk_cell zz_ 0).trans rfl
                          have hz1_ : w'.cell? ⟨w3.heap.size, 1, none⟩ = some (.int .i64 room) := (blk_cell zz_ 1).trans rfl
                          have hz2_ : w'.cell? ⟨w3.heap.size, 2, none⟩ = some (.slice A D.length c) := (blk_cell zz_ 2).trans rfl
                          have hz3_ : w'.cell? ⟨w3.heap.size, 3, none⟩ = some (.int .i64 RI) := (blk_cell zz_ 3).trans rfl
                          refine value_ (w1 := w') (v := .agg #[.int .u32 f, .int .i64 room, .slice A D.length c, .int .i64 RI]) (wanted_on rfl rfl rfl (e172.trans (by first | rfl | (simp [*]; done)))) rfl ?_ ?_
                          · go_simp
                            (try simp only [i64_w])
                            try rfl
                          refine hK.out _ _ ⟨AB_, cB_, AC_, cC_, m24_, m26_, (by rw [ha.out]; exact putSel_upk 24 hb_ rfl rfl rfl), Q_HS, Q_CB, fun h0_ => absurd ((hoff 26 (by kernel_rfl)).symm.trans h0_) (by decide), Q_X24_, fun h0_ => absurd ((hoff 26 (by kernel_rfl)).symm.trans h0_) (by decide)⟩
                        refine steps_cons ?_ ?_
                        · rintro b a w' ⟨AB_, cB_, AC_, cC_, m24_, m26_, ha, Q_HS, Q_CB, Q_CC, Q_X24_, Q_X26_⟩ hb_ hon hoff
                          refine ⟨_, rfl, fun K hK => ?_⟩
                          have e175 : a.tmps[175]? = some (.agg #[.int .u32 f, .int .i64 room, .slice A D.length c, .int .i64 RI]) := by rw [ha]; exact putSel_on (e := (25, 175, .agg #[.int .u32 f, .int .i64 room, .slice A D.length c, .int .i64 RI])) 24 rfl rfl (hon 25 (by kernel_rfl)) rfl
                          have e172 : a.tmps[172]? = some (.bool false) := by rw [ha]; exact putSel_on (e := (22, 172, .bool false)) 21 rfl rfl (hon 22 (by kernel_rfl)) rfl
                          replace ha := Aside0.mk ha
                          have HS := Aside0.mk Q_HS
                          have CB := Aside0.mk (Q_CB (hon 24 (by kernel_rfl)))
                          refine goes_ Try.func21 (by kernel_rfl) rfl #[.agg #[.int .u32 f, .int .i64 room, .slice A D.length c, .int .i64 RI]] (wanted_on rfl rfl rfl (e172.trans (by first | rfl | (simp [*]; done)))) rfl rfl (by first | (simp only [List.map_toArray, List.map_cons, List.map_nil, Act.eval, Array.getD_eq_getD_getElem?, Option.getD_some, e175, e172]; done) | (simp only [List.map_toArray, List.map_cons, List.map_nil, Act.eval, Array.getD_eq_getD_getElem?, Option.getD_some, e175, e172]; rfl)) ?_
                          with_reducible refine (patchbayref3_Recv_Blocks.calls 1000000 f room A c D RI _ _ (Kd.C_below CD0.out HS.out) hcD HBK.out).mono ?_
                          rintro e w1n ⟨vcn, rfl, hrn, hbn⟩
                          obtain ⟨ACn, cCn, rfl, hcn, hCn⟩ := Kd.R_reads hrn
                          refine ⟨_, rfl, ?_⟩
                          refine hK.out _ _ ⟨AB_, cB_, ACn, cCn, m24_, (.slice ACn l.length cCn), (by rw [ha.out]; exact putSel_upk 25 hb_ rfl rfl rfl), (HS.out.trans (hbn.mono HS.out.size)), fun _ => ⟨CB.out.1, Kd.C_below CB.out.2 hbn⟩, fun _ => ⟨hcn, hCn⟩, Q_X24_, fun _ => rfl⟩
                        refine steps_cons ?_ ?_
                        · rintro b a w' ⟨AB_, cB_, AC_, cC_, m24_, m26_, ha, Q_HS, Q_CB, Q_CC, Q_X24_, Q_X26_⟩ hb_ hon hoff
                          refine ⟨_, rfl, fun K hK => ?_⟩
                          have e174 : a.tmps[174]? = some (m24_) := by rw [ha]; exact putSel_on (e := (24, 174, m24_)) 23 rfl rfl (hon 24 (by kernel_rfl)) rfl
                          rw [Q_X24_ (hon 24 (by kernel_rfl))] at e174
                          have e176 : a.tmps[176]? = some (m26_) := by rw [ha]; exact putSel_on (e := (26, 176, m26_)) 25 rfl rfl (hon 26 (by kernel_rfl)) rfl
                          rw [Q_X26_ (hon 26 (by kernel_rfl))] at e176
                          have e172 : a.tmps[172]? = some (.bool false) := by rw [ha]; exact putSel_on (e := (22, 172, .bool false)) 21 rfl rfl (hon 22 (by kernel_rfl)) rfl
                          replace ha := Aside0.mk ha
                          have HS := Aside0.mk Q_HS
                          have CB := Aside0.mk (Q_CB (hon 24 (by kernel_rfl)))
                          have CC := Aside0.mk (Q_CC (hon 26 (by kernel_rfl)))
                          refine goes_ Try.func19 (by kernel_rfl) rfl #[.slice AB_ l.length cB_, .slice AC_ l.length cC_] (wanted_on rfl rfl rfl (e172.trans (by first | rfl | (simp [*]; done)))) rfl rfl (by first | (simp only [List.map_toArray, List.map_cons, List.map_nil, Act.eval, Array.getD_eq_getD_getElem?, Option.getD_some, e174, e176, e172]; done) | (simp only [List.map_toArray, List.map_cons, List.map_nil, Act.eval, Array.getD_eq_getD_getElem?, Option.getD_some, e174, e176, e172]; rfl)) ?_
                          with_reducible refine (patchbayref3_SameBlocks.calls 1000000 AB_ cB_ l AC_ cC_ l true _ CB.out.2 CB.out.1 CC.out.2 CC.out.1 HSM.out).mono ?_
                          rintro e w1n ⟨rfl, hdn⟩
                          have hbn := hdn.below
                          refine ⟨_, rfl, ?_⟩
                          refine hK.out _ _ ⟨AB_, cB_, AC_, cC_, m24_, m26_, (by rw [ha.out]; exact putSel_upk 26 hb_ rfl rfl rfl), (HS.out.trans (hbn.mono HS.out.size)), fun _ => ⟨CB.out.1, Kd.C_below CB.out.2 hbn⟩, fun _ => ⟨CC.out.1, Kd.C_below CC.out.2 hbn⟩, Q_X24_, Q_X26_⟩
                        refine steps_cons ?_ ?_
                        · rintro b a w' ⟨AB_, cB_, AC_, cC_, m24_, m26_, ha, Q_HS, Q_CB, Q_CC, Q_X24_, Q_X26_⟩ hb_ hon hoff
                          refine ⟨_, rfl, fun K hK => ?_⟩
                          have e177 : a.tmps[177]? = some (.bool true) := by rw [ha]; exact putSel_on (e := (27, 177, .bool true)) 26 rfl rfl (hon 27 (by kernel_rfl)) rfl
                          have e172 : a.tmps[172]? = some (.bool false) := by rw [ha]; exact putSel_on (e := (22, 172, .bool false)) 21 rfl rfl (hon 22 (by kernel_rfl)) rfl
                          replace ha := Aside0.mk ha
                          have HS := Aside0.mk Q_HS
                          have CB := Aside0.mk (Q_CB (hon 24 (by kernel_rfl)))
                          have CC := Aside0.mk (Q_CC (hon 26 (by kernel_rfl)))
                          refine value_ (w1 := w') (v := .bool false) (wanted_on rfl rfl rfl (e172.trans (by first | rfl | (simp [*]; done)))) rfl ?_ ?_
                          · go_simp
                            (try simp only [i64_w])
                            try rfl
                          refine hK.out _ _ ⟨AB_, cB_, AC_, cC_, m24_, m26_, (by rw [ha.out]; exact putSel_upk 27 hb_ rfl rfl rfl), Q_HS, Q_CB, Q_CC, Q_X24_, Q_X26_⟩
                        refine steps_cons ?_ ?_
                        · rintro b a w' ⟨AB_, cB_, AC_, cC_, m24_, m26_, ha, Q_HS, Q_CB, Q_CC, Q_X24_, Q_X26_⟩ hb_ hon hoff
                          refine ⟨_, rfl, fun K hK => ?_⟩
                          have e172 : a.tmps[172]? = some (.bool false) := by rw [ha]; exact putSel_on (e := (22, 172, .bool false)) 21 rfl rfl (hon 22 (by kernel_rfl)) rfl
                          have e178 : a.tmps[178]? = some (.bool false) := by rw [ha]; exact putSel_on (e := (28, 178, .bool false)) 27 rfl rfl (hon 28 (by kernel_rfl)) rfl
                          replace ha := Aside0.mk ha
                          have HS := Aside0.mk Q_HS
                          have CB := Aside0.mk (Q_CB (hon 24 (by kernel_rfl)))
                          have CC := Aside0.mk (Q_CC (hon 26 (by kernel_rfl)))
                          refine value_ (w1 := w') (v := .bool false) (by rfl) rfl ?_ ?_
                          · go_simp
                            (try simp only [i64_w])
                            try rfl
                          refine hK.out _ _ ⟨AB_, cB_, AC_, cC_, m24_, m26_, (by rw [ha.out]; exact putSel_upk 28 hb_ rfl rfl rfl), Q_HS, Q_CB, Q_CC, Q_X24_, Q_X26_⟩
                        exact steps_nil
                      rintro b a wE hall ⟨AB_, cB_, AC_, cC_, m24_, m26_, ha, Q_HS, Q_CB, Q_CC, Q_X24_, Q_X26_⟩
                      clear HS
                      have hb1_ := hall 1 (by kernel_rfl)
                      have hb2_ := hall 2 (by kernel_rfl)
                      have hb3_ := hall 3 (by kernel_rfl)
                      have hb4_ := hall 4 (by kernel_rfl)
                      have hb5_ := hall 5 (by kernel_rfl)
                      have hb6_ := hall 6 (by kernel_rfl)
                      have hb7_ := hall 7 (by kernel_rfl)
                      have hb8_ := hall 8 (by kernel_rfl)
                      have hb9_ := hall 9 (by kernel_rfl)
                      have hb10_ := hall 10 (by kernel_rfl)
                      have hb11_ := hall 11 (by kernel_rfl)
                      have hb12_ := hall 12 (by kernel_rfl)
                      have hb13_ := hall 13 (by kernel_rfl)
                      have hb14_ := hall 14 (by kernel_rfl)
                      have hb15_ := hall 15 (by kernel_rfl)
                      have hb16_ := hall 16 (by kernel_rfl)
                      have hb17_ := hall 17 (by kernel_rfl)
                      have hb18_ := hall 18 (by kernel_rfl)
                      have hb19_ := hall 19 (by kernel_rfl)
                      have hb20_ := hall 20 (by kernel_rfl)
                      have hb21_ := hall 21 (by kernel_rfl)
                      have hb22_ := hall 22 (by kernel_rfl)
                      have hb23_ := hall 23 (by kernel_rfl)
                      have hb24_ := hall 24 (by kernel_rfl)
                      have hb25_ := hall 25 (by kernel_rfl)
                      have hb26_ := hall 26 (by kernel_rfl)
                      have hb27_ := hall 27 (by kernel_rfl)
                      have hb28_ := hall 28 (by kernel_rfl)
                      have hb29_ := hall 29 (by kernel_rfl)
                      subst ha
                      obtain rfl := Q_X24_ hb24_
                      obtain rfl := Q_X26_ hb26_
                      simp only [putSel, hb1_, hb2_, hb3_, hb4_, hb5_, hb6_, hb7_, hb8_, hb9_, hb10_, hb11_, hb12_, hb13_, hb14_, hb15_, hb16_, hb17_, hb18_, hb19_, hb20_, hb21_, hb22_, hb23_, hb24_, hb25_, hb26_, hb27_, hb28_, hb29_, if_true, Act.put, List.setIfInBounds_toArray, List.set_cons_zero, List.set_cons_succ]
                      have HS := Aside0.mk Q_HS
                      clear Q_HS
                      have CB := Aside0.mk (Q_CB hb24_)
                      clear Q_CB
                      have CC := Aside0.mk (Q_CC hb26_)
                      clear Q_CC
                      clear hall hb1_ hb2_ hb3_ hb4_ hb5_ hb6_ hb7_ hb8_ hb9_ hb10_ hb11_ hb12_ hb13_ hb14_ hb15_ hb16_ hb17_ hb18_ hb19_ hb20_ hb21_ hb22_ hb23_ hb24_ hb25_ hb26_ hb27_ hb28_ hb29_
                      go_wp2
                      go_roundg n9
                      case measure => omega
                      case rel =>
                        have hkn9 := HKN.out
                        have hb9 := BL0.out.size
                        refine ⟨k + 1, R', p', da', th', by go_num, by omega, HI8.out, ?_, ⟨A, c, ?_, HZW.out, ?_, ?_⟩, ?_⟩
                        · rw [HE.out]; exact BF0.out.below HS.out
                        · rw [← HD.out, HRI.out]; exact blk_below Z0.out HS.out
                        · rw [← HD.out]; exact hcD
                        · rw [← HD.out]; exact Kd.R_below HRF.out HS.out
                        · exact BL0.out.trans (HS.out.mono hb9)
            · have d4 : decide ((k : Int) < 10) = false := decide_eq_false (by omega)
              go_wp2
              go_ret
              exact ⟨rfl, HBW.out⟩
          · have d3 : decide ((k : Int) < (rs.length : Int)) = false := decide_eq_false (by omega)
            go_wp2
            go_ret
            exact ⟨rfl, HBW.out⟩
        · have d2 : decide ((k : Int) < (bs.length : Int)) = false := decide_eq_false (by omega)
          go_wp2
          go_ret
          exact ⟨rfl, HBW.out⟩
      · have d1 : decide ((k : Int) < (fs.length : Int)) = false := decide_eq_false (by omega)
        go_wp2
        go_ret
        exact ⟨rfl, HBW.out⟩
  · have HI := Aside0.mk (in_b room false ⟨fun q => absurd q hroom, fun q => by cases q⟩)
    go_enter Try.func3, Try.ntmps3
    go_wp2_with (first | (go_at_call 5; (with_reducible refine (fact_true _).mono ?_); rintro e' w1 ⟨rfl, hb1⟩; have HB1 := Aside0.mk hb1; clear hb1) | (go_at_call 6; (with_reducible refine (new_no f room _ hroom).mono ?_); rintro e' w2 ⟨rfl, hb2⟩; have HB2 := Aside0.mk hb2; clear hb2) | (go_at_call 7; (with_reducible refine (patchbayref3_In.calls room 1 65535 false _ HI.out).mono ?_); rintro e' w3 ⟨rfl, hd3⟩; have HD3 := Aside0.mk hd3; clear hd3))
    all_goals (go_ret; exact ⟨rfl, HB1.out.trans ((HB2.out.trans (HD3.out.below.mono HB2.out.size)).mono HB1.out.size)⟩)
end Go.Proofs.Ytcllcjflgeiehaa.PRecvPlays
