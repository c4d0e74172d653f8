/- Proved: what knows and asked of a member of a broadcast stream do. -/
import Derived.Test.YtcllcjflgeiehaaBCastM
namespace Go.Proofs.Ytcllcjflgeiehaa.PCastPlays
open Go.RowKit Go.Proofs.YtcllcjflgeiehaaW.PrintWords Go.Proofs.YtcllcjflgeiehaaW.PrintLast Go.Proofs.YtcllcjflgeiehaaW.PrintMore
set_option linter.unusedVariables false
set_option linter.unusedSimpArgs false
def itemOf (t : Int) : S82 := ⟨false, ⟨#[]⟩, t, -1, false⟩
/-- The list of known messages, made longer. -/
def mKnows (its : List S82) (m : Nat) (t : Int) : List S82 := its ++ List.replicate (m - its.length) (itemOf t)
theorem mKnows_id (its : List S82) (m : Nat) (t : Int) (h : m ≤ its.length) : mKnows its m t = its := by unfold mKnows; rw [show m - its.length = 0 from by omega]; simp
theorem mKnows_snoc (its : List S82) (m : Nat) (t : Int) (h : its.length < m) : mKnows (its ++ [itemOf t]) m t = mKnows its m t := by
  unfold mKnows
  rw [List.length_append, List.length_singleton, List.append_assoc, show m - its.length = (m - (its.length + 1)) + 1 from by omega, List.replicate_succ]
  rfl
theorem mKnows_len (its : List S82) (m : Nat) (t : Int) : (mKnows its m t).length = max its.length m := by unfold mKnows; rw [List.length_append, List.length_replicate]; omega
def KRel (w0 w : World) (g : Nat) (id : Int) (its : List S82) (rd he now : Int) (m : Nat) (t : Int) (n : Nat) (wr : World) : Prop := ∃ (l : List S82), Mem w0.heap.size wr g id l rd he now ∧ l.length + n = max its.length m ∧ mKnows l m t = mKnows its m t ∧ Below w0.heap.size w0 wr ∧ KeepM w wr
set_option maxHeartbeats 1000000 in
theorem knows_calls {w0 w : World} {g : Nat} {id rd he now t mi : Int} {its : List S82} {m : Nat} (hmi : mi = (m : Int)) (h : Mem w0.heap.size w g id its rd he now) (hb : Below w0.heap.size w0 w) (hl : its.length ≤ 64) (hm : m ≤ 64) :
    Calls Try.prog 42 #[.pointer (some ⟨g, 0, none⟩), .int .i64 mi, .int .i64 t] w fun e w' => e = .returned (.tuple #[]) ∧ Mem w0.heap.size w' g id (mKnows its m t) rd he now ∧ Below w0.heap.size w0 w' ∧ KeepM w w' := by
  subst hmi
  have HM := Aside0.mk h
  have HB := Aside0.mk hb
  clear h hb
  go_enter Try.func42, Try.ntmps42
  go_wp2
  go_loopg [] (max its.length m - its.length) (fun n wr => KRel w0 w g id its rd he now m t n wr)
  case atStart => exact ⟨its, HM.out, by omega, rfl, HB.out, KeepM.refl _⟩
  case round =>
    obtain ⟨l, hmem, hln, hkn, hbw, hkw⟩ := hrel
    have HMM := Aside0.mk hmem
    have HLN := Aside0.mk hln
    have HKN := Aside0.mk hkn
    have HBW := Aside0.mk hbw
    have HKW := Aside0.mk hkw
    obtain ⟨v, hbox, hgb, hrow⟩ := hmem
    have HBOX := Aside0.mk hbox
    have HG := Aside0.mk hgb
    obtain ⟨A, c, rfl⟩ := Kd.R_slice hrow
    have HROW := Aside0.mk hrow
    have c1 : wr.cell? ⟨g, 1, none⟩ = some (.slice A l.length c) := (blk_cell hbox 1).trans rfl
    have hl64 : l.length ≤ 64 := by omega
    clear hbox hgb hrow hbw hkw hln hkn
    by_cases hlt : l.length < m
    · have d1 : decide (l.length < m) = true := decide_eq_true hlt
      obtain ⟨n, rfl⟩ : ∃ q, gk = q + 1 := ⟨gk - 1, by have := HLN.out; omega⟩
      obtain ⟨l1, hl1⟩ : ∃ x, l ++ [itemOf t] = x := ⟨_, rfl⟩
      have HL1 := Aside0.mk hl1
      clear hl1
      go_wp2_with (at_builtin; refine Kd.R_append k82 (w0 := w0) w0.heap.size rfl (.tmp 17) (.tmp 20) 76 82 (.agg #[.bool false, .string ⟨#[]⟩, .int .i64 0, .int .i64 0, .bool false]) 48 rfl Try.underlying76 info82 rfl (by decide) (by omega) (.slice A l.length c) l (itemOf t) [.bool false, .string ⟨#[]⟩, .int .i64 t, .int .i64 (-1), .bool false] (fun _ => True) (fun _ => False) rfl rfl (k82_mkM _ _ _ (itemOf t)) (fun _ hk => hk.elim) (fun _ _ => trivial) HROW.out HBW.out HBW.out.size (by omega) ?_; intro v1 w1 ho hb1 hg1 hat; rw [HL1.out] at ho; obtain ⟨A1, k1, rfl⟩ := Kd.R_slice ho; have HB1 := Aside0.mk hb1; have HR1 := Aside0.mk ho; have HK1 := Aside0.mk (KeepM.grown hg1 (mrow_typed HROW.out)); have HBOX1 := Aside0.mk (mbox_grown HBOX.out HROW.out hg1); clear hb1 ho hg1 hat c1; have c1 := (blk_cell HBOX1.out 1).trans rfl; have f1 := blk_frozen HBOX1.out 1)
      go_roundg n
      case measure => omega
      case rel =>
        obtain ⟨a1, a2, a3⟩ := mem_put1 HBOX1.out HG.out HR1.out HB1.out
        have e1 := HL1.out
        refine ⟨l1, a1, ?_, ?_, a2, HKW.out.trans (HK1.out.trans a3)⟩
        · have := HLN.out; rw [← e1, List.length_append, List.length_singleton]; omega
        · rw [← e1, mKnows_snoc _ _ _ (by omega)]; exact HKN.out
    · have d1 : decide (l.length < m) = false := decide_eq_false hlt
      go_wp2
      go_end0
      have e2 := HKN.out
      rw [mKnows_id l m t (by omega)] at e2
      rw [← e2]
      exact ⟨rfl, HMM.out, HBW.out, HKW.out⟩
theorem row_form {B : Nat} {w : World} {v : Value} {its : List S82} (h : MRow B w v its) (h0 : 0 < its.length) : ∃ g c, v = .slice (some ⟨g, 0, none⟩) its.length c ∧ B ≤ g := by
  obtain ⟨_, inner, ho, _⟩ := h
  obtain ⟨_, h2⟩ := ho
  rcases h2 with ⟨_, h3⟩ | ⟨g, cap, cur, he, hb, _⟩
  · omega
  · exact ⟨g, cap, he, hb⟩
def item (its : List S82) (i : Nat) : S82 := its.getD i z82
/-- The cells of a message. -/
theorem row_item {B : Nat} {w : World} {g c i : Nat} {its : List S82} (h : MRow B w (.slice (some ⟨g, 0, none⟩) its.length c) its) (hi : i < its.length) :
    w.cell? ⟨g, i * 5, none⟩ = some (.bool (item its i).f0) ∧ w.cell? ⟨g, i * 5 + 1, none⟩ = some (.string (item its i).f1) ∧ w.cell? ⟨g, i * 5 + 2, none⟩ = some (.int .i64 (item its i).f2) ∧ w.cell? ⟨g, i * 5 + 3, none⟩ = some (.int .i64 (item its i).f3) ∧ w.cell? ⟨g, i * 5 + 4, none⟩ = some (.bool (item its i).f4) ∧ ∀ j, w.frozen? ⟨g, i * 5 + j, none⟩ = false := by
  obtain ⟨cs, hcl, hM, hcc, hfr⟩ := Kd.R_elem h z82 (i : Int) (by omega) (by omega)
  obtain rfl := k82_openM hM
  exact ⟨hcc 0 _ rfl, hcc 1 _ rfl, hcc 2 _ rfl, hcc 3 _ rfl, hcc 4 _ rfl, fun j => hfr j⟩
/-- A message is written in part. -/
theorem row_put {B : Nat} {w : World} {g c i j : Nat} {its : List S82} {x : S82} {u : Value} (h : MRow B w (.slice (some ⟨g, 0, none⟩) its.length c) its) (hi : i < its.length) (hj : j < 5)
    (hx : [Value.bool (item its i).f0, .string (item its i).f1, .int .i64 (item its i).f2, .int .i64 (item its i).f3, .bool (item its i).f4].set j u = [Value.bool x.f0, .string x.f1, .int .i64 x.f2, .int .i64 x.f3, .bool x.f4]) :
    MRow B (w.setCell ⟨g, i * 5 + j, none⟩ u) (.slice (some ⟨g, 0, none⟩) its.length c) (its.set i x) ∧ w.grownBy (w.setCell ⟨g, i * 5 + j, none⟩ u) (some g) := by
  obtain ⟨cs, hcl, hM, hcc, hfr⟩ := Kd.R_elem h z82 (i : Int) (by omega) (by omega)
  obtain rfl := k82_openM hM
  have hs : (List.take j [Value.bool (item its i).f0, .string (item its i).f1, .int .i64 (item its i).f2, .int .i64 (item its i).f3, .bool (item its i).f4]) ++ [u] ++ List.drop (j + [u].length) [Value.bool (item its i).f0, .string (item its i).f1, .int .i64 (item its i).f2, .int .i64 (item its i).f3, .bool (item its i).f4] = [Value.bool x.f0, .string x.f1, .int .i64 x.f2, .int .i64 x.f3, .bool x.f4] := by
    rw [← hx]
    match j, hj with
    | 0, _ => rfl
    | 1, _ => rfl
    | 2, _ => rfl
    | 3, _ => rfl
    | 4, _ => rfl
  exact Kd.R_seg (seg := [u]) (j := j) (okp := fun _ => False) h (i : Int) (by omega) (by omega) hcl hcc (show j + 1 ≤ 5 by omega) (x' := x) (by rw [show (its.getD (i : Int).toNat z82) = item its i from rfl, hs]; exact k82_mkM _ _ _ x) (fun _ hk => hk.elim)
theorem mem_put {w0 w : World} {g gb c i j : Nat} {id rd he now : Int} {its : List S82} {x : S82} {u : Value} (hbox : MBox w g id (.slice (some ⟨gb, 0, none⟩) its.length c) rd he now) (hg : w0.heap.size ≤ g) (h : MRow w0.heap.size w (.slice (some ⟨gb, 0, none⟩) its.length c) its) (hb : Below w0.heap.size w0 w) (hi : i < its.length) (hj : j < 5)
    (hx : [Value.bool (item its i).f0, .string (item its i).f1, .int .i64 (item its i).f2, .int .i64 (item its i).f3, .bool (item its i).f4].set j u = [Value.bool x.f0, .string x.f1, .int .i64 x.f2, .int .i64 x.f3, .bool x.f4]) :
    MBox (w.setCell ⟨gb, i * 5 + j, none⟩ u) g id (.slice (some ⟨gb, 0, none⟩) its.length c) rd he now ∧ MRow w0.heap.size (w.setCell ⟨gb, i * 5 + j, none⟩ u) (.slice (some ⟨gb, 0, none⟩) (its.set i x).length c) (its.set i x) ∧ Below w0.heap.size w0 (w.setCell ⟨gb, i * 5 + j, none⟩ u) ∧ KeepM w (w.setCell ⟨gb, i * 5 + j, none⟩ u) := by
  obtain ⟨h1, h2⟩ := row_put h hi hj hx
  have hgb : w0.heap.size ≤ gb := Kd.R_base h gb (by simp [Value.ownBlock])
  refine ⟨mbox_grown hbox h h2, by rw [List.length_set]; exact h1, hb.setCell (p := ⟨gb, i * 5 + j, none⟩) hgb _, KeepM.grown h2 (fun k hk => ?_)⟩
  injection hk with hk
  subst hk
  exact mrow_typed h gb (by simp [Value.ownBlock])
def mAsk (id : Int) (its : List S82) (no : Nat) (t : Int) : List S82 :=
  if (item (mKnows its (no + 1) t) no).f0 = false then (mKnows its (no + 1) t).set no { item (mKnows its (no + 1) t) no with f2 := t + 20 }
  else if (item (mKnows its (no + 1) t) no).f3 < 0 then (mKnows its (no + 1) t).set no { item (mKnows its (no + 1) t) no with f3 := t + id } else mKnows its (no + 1) t
set_option maxHeartbeats 1000000 in
theorem asked_calls {w0 w : World} {g : Nat} {id rd he now t : Int} {its : List S82} {no : Nat} (h : Mem w0.heap.size w g id its rd he now) (hb : Below w0.heap.size w0 w) (hl : its.length ≤ 64) (hm : no < 64) (ht : 0 ≤ t ∧ t ≤ 1000000000) (hid : 0 ≤ id ∧ id ≤ 15) :
    Calls Try.prog 43 #[.pointer (some ⟨g, 0, none⟩), .int .i64 (no : Int), .int .i64 t] w fun e w' => e = .returned (.tuple #[]) ∧ Mem w0.heap.size w' g id (mAsk id its no t) rd he now ∧ Below w0.heap.size w0 w' ∧ KeepM w w' := by
  have HM := Aside0.mk h
  have HB := Aside0.mk hb
  have HLL := mKnows_len its (no + 1) t
  have hno : no < (mKnows its (no + 1) t).length := by omega
  obtain ⟨l, hle⟩ : ∃ x, mKnows its (no + 1) t = x := ⟨_, rfl⟩
  have HA := Aside0.mk (show mAsk id its no t = if (item l no).f0 = false then l.set no { item l no with f2 := t + 20 } else if (item l no).f3 < 0 then l.set no { item l no with f3 := t + id } else l from by rw [← hle]; rfl)
  rw [hle] at hno HLL
  have HLE := Aside0.mk hle
  clear h hb hle HLL
  go_enter Try.func43, Try.ntmps43
  go_upto_region 1 with (go_at_call 42; (with_reducible refine (knows_calls (m := no + 1) (by omega) HM.out HB.out hl (by omega)).mono ?_); rintro e' w1 ⟨rfl, hm1, hb1, hk1⟩; rw [HLE.out] at hm1; have HM1 := Aside0.mk hm1; have HB1 := Aside0.mk hb1; have HK1 := Aside0.mk hk1; clear hm1 hb1 hk1)
  obtain ⟨v, hbox, hgb, hrow⟩ := HM1.out
  obtain ⟨gb, c, rfl, hgb2⟩ := row_form hrow (by omega)
  obtain ⟨i0, i1, i2, i3, i4, fz⟩ := row_item hrow hno
  have c1 : w1.cell? ⟨g, 1, none⟩ = some (.slice (some ⟨gb, 0, none⟩) l.length c) := (blk_cell hbox 1).trans rfl
  have c0 : w1.cell? ⟨g, 0, none⟩ = some (.int .i64 id) := (blk_cell hbox 0).trans rfl
  have f2 := fz 2
  have f3 := fz 3
  obtain ⟨x, hx⟩ : ∃ x, item l no = x := ⟨_, rfl⟩
  rw [hx] at i0 i1 i2 i3 i4
  have HX := Aside0.mk hx
  have HBOX := Aside0.mk hbox
  have HG := Aside0.mk hgb
  have HROW := Aside0.mk hrow
  obtain ⟨x0, x1, x2, x3, x4⟩ := x
  simp only at i0 i1 i2 i3 i4
  clear hbox hgb hrow hx fz hgb2
  cases x0 with
  | false =>
    go_wp2
    go_end0
    have hx := HX.out
    obtain ⟨a1, a2, a3, a4⟩ := mem_put (j := 2) (u := .int .i64 (t + 20)) (x := ⟨false, x1, t + 20, x3, x4⟩) HBOX.out HG.out HROW.out HB1.out hno (by omega) (by rw [hx]; rfl)
    rw [HA.out, hx, if_pos rfl]
    rw [List.length_set] at a2
    exact ⟨rfl, ⟨_, a1, HG.out, a2⟩, a3, HK1.out.trans a4⟩
  | true =>
    by_cases h3 : x3 < 0
    · have d3 : decide (x3 < 0) = true := decide_eq_true h3
      have HX3 := Aside0.mk h3
      clear h3
      go_wp2
      go_end0
      have hx := HX.out
      obtain ⟨a1, a2, a3, a4⟩ := mem_put (j := 3) (u := .int .i64 (t + id)) (x := ⟨true, x1, x2, t + id, x4⟩) HBOX.out HG.out HROW.out HB1.out hno (by omega) (by rw [hx]; rfl)
      rw [HA.out, hx, if_neg (by simp), if_pos HX3.out]
      rw [List.length_set] at a2
      exact ⟨rfl, ⟨_, a1, HG.out, a2⟩, a3, HK1.out.trans a4⟩
    · have d3 : decide (x3 < 0) = false := decide_eq_false h3
      have HX3 := Aside0.mk h3
      clear h3
      go_wp2
      go_end0
      have hx := HX.out
      rw [HA.out, hx, if_neg (by simp), if_neg (show ¬ x3 < 0 from by have := HX3.out; omega)]
      exact ⟨rfl, ⟨_, HBOX.out, HG.out, HROW.out⟩, HB1.out, HK1.out⟩
end Go.Proofs.Ytcllcjflgeiehaa.PCastPlays
