/- Proved: what New, Say and knows of a member of a broadcast stream do. -/
import Derived.Test.YtcllcjflgeiehaaBCastX1
import Derived.Test.YtcllcjflgeiehaaBW
import Derived.Deep.DeepCutAuto
import Derived.Outline
namespace Go.Proofs.Ytcllcjflgeiehaa.PCastPlays
open Go.RowKit Go.Proofs.YtcllcjflgeiehaaW.PrintWords Go.Proofs.YtcllcjflgeiehaaW.PrintLast Go.Proofs.YtcllcjflgeiehaaW.PrintMore
set_option linter.unusedVariables false
set_option linter.unusedSimpArgs false
/-- The member's box. -/
def MBox (W : World) (g : Nat) (id : Int) (v : Value) (rd he now : Int) : Prop := W.heap[g]? = some (.cells #[.int .i64 id, v, .int .i64 rd, .int .i64 he, .int .i64 now] 78 (0, 0))
def MRow (B : Nat) (W : World) (v : Value) (its : List S82) : Prop := Kd.R k82 82 W B (fun _ => True) v its
/-- A member. -/
def Mem (B : Nat) (W : World) (g : Nat) (id : Int) (its : List S82) (rd he now : Int) : Prop := ∃ v, MBox W g id v rd he now ∧ B ≤ g ∧ MRow B W v its
/-- Blocks of types other than a member's stay. -/
def KeepM (w w' : World) : Prop := w.heap.size ≤ w'.heap.size ∧ ∀ (k t : Nat) (cs : Array Value), w.heap[k]? = some (Obj.cells cs t (0, 0)) → t ≠ 78 → t ≠ 82 → w'.heap[k]? = some (Obj.cells cs t (0, 0))
theorem KeepM.refl (w : World) : KeepM w w := ⟨Nat.le_refl _, fun _ _ _ h _ _ => h⟩
theorem KeepM.trans {a b c : World} (h : KeepM a b) (k : KeepM b c) : KeepM a c := ⟨Nat.le_trans h.1 k.1, fun i t cs hi h1 h2 => k.2 i t cs (h.2 i t cs hi h1 h2) h1 h2⟩
theorem KeepM.below {w w1 : World} (h : Below w.heap.size w w1) : KeepM w w1 := ⟨h.size, fun i t cs hi _ _ => (h.block i (blk_lt hi)).trans hi⟩
theorem KeepM.set {w : World} {g o t : Nat} {cs : Array Value} {v : Value} (h : w.heap[g]? = some (Obj.cells cs t (0, 0))) (ht : t = 78 ∨ t = 82) : KeepM w (w.setCell ⟨g, o, none⟩ v) := by
  refine ⟨by simp, fun k t' cs' hk h1 h2 => (Below.heap_setCell w ⟨g, o, none⟩ v k (fun e => ?_)).trans hk⟩
  have e2 : k = g := e
  subst e2
  rw [h] at hk
  injection hk with hk
  injection hk with _ hk
  subst hk
  rcases ht with ht | ht
  · exact h1 ht
  · exact h2 ht
theorem KeepM.grown {w w1 : World} {row : Option Nat} (h : w.grownBy w1 row) (ht : ∀ k, row = some k → ∃ cs, w.heap[k]? = some (Obj.cells cs 82 (0, 0))) : KeepM w w1 := by
  refine ⟨h.size, fun k t cs hk h1 h2 => (h.block k (blk_lt hk) (fun e => ?_)).trans hk⟩
  obtain ⟨cs2, hc⟩ := ht k e.symm
  rw [hc] at hk
  injection hk with hk
  injection hk with _ hk
  exact h2 hk.symm
theorem MRow.below {B : Nat} {w w1 : World} {v : Value} {its : List S82} (h : MRow B w v its) (hb : Below w.heap.size w w1) : MRow B w1 v its := Kd.R_below h hb
theorem Mem.below {B : Nat} {w w1 : World} {g : Nat} {id : Int} {its : List S82} {rd he now : Int} (h : Mem B w g id its rd he now) (hb : Below w.heap.size w w1) : Mem B w1 g id its rd he now := by
  obtain ⟨v, h1, h2, h3⟩ := h
  exact ⟨v, blk_below h1 hb, h2, h3.below hb⟩
theorem MRow.set {B : Nat} {w : World} {v u : Value} {its : List S82} {g o : Nat} {cs : Array Value} (h : MRow B w v its) (hb : w.heap[g]? = some (Obj.cells cs 78 (0, 0))) : MRow B (w.setCell ⟨g, o, none⟩ u) v its :=
  Kd.R_set h hb (fun q hq => by rcases List.mem_cons.1 hq with rfl | hq; · decide
                                · cases hq) o u
theorem mrow_ne {B : Nat} {w : World} {v : Value} {its : List S82} {g : Nat} {id : Int} {u : Value} {rd he now : Int} (h : MRow B w v its) (hb : MBox w g id u rd he now) : some g ≠ v.ownBlock := Kd.R_ne h hb (by decide)
theorem new_yes (id : Int) (w : World) (h : 0 ≤ id ∧ id ≤ 15) : Calls Try.prog 23 #[.int .i64 id] w fun e w' => ∃ g, e = .returned (.tuple #[.pointer (some ⟨g, 0, none⟩), .int .i64 0]) ∧ Mem w.heap.size w' g id [] 0 0 0 ∧ Below w.heap.size w w' := by
  have d1 : decide (id < 0) = false := decide_eq_false (by omega)
  have d2 : decide (16 ≤ id) = false := decide_eq_false (by omega)
  clear h
  go_enter Try.func23, Try.ntmps23
  go_wp2
  go_ret2
  exact ⟨_, rfl, ⟨_, heap_alloc_new _ _, Nat.le_refl _, Kd.R_nil _ _ _ _ _⟩, (Below.refl _ _).alloc (Nat.le_refl _) _⟩
theorem new_no (id : Int) (w : World) (h : ¬ (0 ≤ id ∧ id ≤ 15)) : Calls Try.prog 23 #[.int .i64 id] w fun e w' => e = .returned (.tuple #[.pointer none, .int .i64 1]) ∧ Below w.heap.size w w' := by
  by_cases h1 : id < 0
  · have d1 : decide (id < 0) = true := decide_eq_true h1
    clear h h1
    go_enter Try.func23, Try.ntmps23
    go_wp2
    go_ret2
    exact ⟨rfl, Below.refl _ _⟩
  · have d1 : decide (id < 0) = false := decide_eq_false h1
    have d2 : decide (16 ≤ id) = true := decide_eq_true (by omega)
    clear h h1
    go_enter Try.func23, Try.ntmps23
    go_wp2
    go_ret2
    exact ⟨rfl, Below.refl _ _⟩
theorem info82 : (Try.prog.info? 82).map (fun i => (i.zero, i.size, i.bytes)) = some (some (.agg #[.bool false, .string ⟨#[]⟩, .int .i64 0, .int .i64 0, .bool false]), 5, 48) := by kernel_rfl
theorem mbox_grown {w w1 : World} {B g : Nat} {id rd he now : Int} {v u : Value} {its : List S82} (h : MBox w g id u rd he now) (hr : MRow B w v its) (hg : w.grownBy w1 v.ownBlock) : MBox w1 g id u rd he now := blk_grown h hg (mrow_ne hr h)
theorem mrow_typed {B : Nat} {w : World} {v : Value} {its : List S82} (h : MRow B w v its) : ∀ k, v.ownBlock = some k → ∃ cs, w.heap[k]? = some (Obj.cells cs 82 (0, 0)) := fun k hk => Kd.R_typed h k hk
theorem mem_put1 {w0 w : World} {g : Nat} {id rd he now : Int} {v u : Value} {its : List S82} (h : MBox w g id u rd he now) (hg : w0.heap.size ≤ g) (hr : MRow w0.heap.size w v its) (hb : Below w0.heap.size w0 w) :
    Mem w0.heap.size (w.setCell ⟨g, 1, none⟩ v) g id its rd he now ∧ Below w0.heap.size w0 (w.setCell ⟨g, 1, none⟩ v) ∧ KeepM w (w.setCell ⟨g, 1, none⟩ v) :=
  ⟨⟨v, by unfold MBox at h ⊢; exact (blk_set h 1 v).trans rfl, hg, hr.set h⟩, hb.setCell (p := ⟨g, 1, none⟩) hg _, KeepM.set h (.inl rfl)⟩
def mSay (id : Int) (its : List S82) (s : ByteArray) : List S82 × Int :=
  if id ≠ 0 then (its, 14) else if 1024 < s.size then (its, 2) else if 64 ≤ its.length then (its, 5) else (its ++ [⟨true, s, 0, -1, true⟩], 0)
set_option maxHeartbeats 1000000 in
theorem say_calls {w0 w : World} {g : Nat} {id rd he now : Int} {its : List S82} {s : ByteArray} (h : Mem w0.heap.size w g id its rd he now) (hb : Below w0.heap.size w0 w) (hl : its.length ≤ 64) :
    Calls Try.prog 25 #[.pointer (some ⟨g, 0, none⟩), .string s] w fun e w' => e = .returned (.int .i64 (mSay id its s).2) ∧ Mem w0.heap.size w' g id (mSay id its s).1 rd he now ∧ Below w0.heap.size w0 w' ∧ KeepM w w' := by
  have HM := Aside0.mk h
  have HB := Aside0.mk hb
  obtain ⟨v, hbox, hgb, hrow⟩ := h
  have HBOX := Aside0.mk hbox
  have HG := Aside0.mk hgb
  obtain ⟨A, c, rfl⟩ := Kd.R_slice hrow
  have HROW := Aside0.mk hrow
  have c0 : w.cell? ⟨g, 0, none⟩ = some (.int .i64 id) := (blk_cell hbox 0).trans rfl
  have c1 : w.cell? ⟨g, 1, none⟩ = some (.slice A its.length c) := (blk_cell hbox 1).trans rfl
  clear hbox hgb hrow hb
  by_cases h0 : id = 0
  · subst h0
    by_cases hs : 1024 < s.size
    · have HE := Aside0.mk (show mSay 0 its s = (its, 2) from by unfold mSay; rw [if_neg (by decide), if_pos hs])
      have d1 : decide ((1024 : Int) < (s.size : Int)) = true := decide_eq_true (by omega)
      clear hs
      go_enter Try.func25, Try.ntmps25
      go_wp2
      go_ret
      rw [HE.out]
      exact ⟨rfl, HM.out, HB.out, KeepM.refl _⟩
    · by_cases hf : 64 ≤ its.length
      · have HE := Aside0.mk (show mSay 0 its s = (its, 5) from by unfold mSay; rw [if_neg (by decide), if_neg hs, if_pos hf])
        have d1 : decide ((1024 : Int) < (s.size : Int)) = false := decide_eq_false (by omega)
        have d2 : decide ((64 : Int) ≤ (its.length : Int)) = true := decide_eq_true (by omega)
        clear hs hf
        go_enter Try.func25, Try.ntmps25
        go_wp2
        go_ret
        rw [HE.out]
        exact ⟨rfl, HM.out, HB.out, KeepM.refl _⟩
      · have HE := Aside0.mk (show mSay 0 its s = (its ++ [⟨true, s, 0, -1, true⟩], 0) from by unfold mSay; rw [if_neg (by decide), if_neg hs, if_neg hf])
        have d1 : decide ((1024 : Int) < (s.size : Int)) = false := decide_eq_false (by omega)
        have d2 : decide ((64 : Int) ≤ (its.length : Int)) = false := decide_eq_false (by omega)
        obtain ⟨its1, hits1⟩ : ∃ x, its ++ [(⟨true, s, 0, -1, true⟩ : S82)] = x := ⟨_, rfl⟩
        have HITS := Aside0.mk hits1
        clear hs hf hits1
        go_enter Try.func25, Try.ntmps25
        go_wp2_with (at_builtin; refine Kd.R_append k82 (w0 := w0) w0.heap.size rfl (.tmp 26) (.tmp 29) 76 82 (.agg #[.bool false, .string ⟨#[]⟩, .int .i64 0, .int .i64 0, .bool false]) 48 rfl Try.underlying76 info82 rfl (by decide) (by omega) (.slice A its.length c) its (⟨true, s, 0, -1, true⟩ : S82) [.bool true, .string s, .int .i64 0, .int .i64 (-1), .bool true] (fun _ => True) (fun _ => False) rfl rfl (k82_mkM _ _ _ (⟨true, s, 0, -1, true⟩ : S82)) (fun _ hk => hk.elim) (fun _ _ => trivial) HROW.out HB.out HB.out.size (by omega) ?_; intro v1 w1 ho hb1 hg1 hat; rw [HITS.out] at ho; obtain ⟨A1, k1, rfl⟩ := Kd.R_slice ho; have HB1 := Aside0.mk hb1; have HR1 := Aside0.mk ho; have HK1 := Aside0.mk (KeepM.grown hg1 (mrow_typed HROW.out)); have HBOX1 := Aside0.mk (mbox_grown HBOX.out HROW.out hg1); clear hb1 ho hg1 hat c0 c1; have c1 := (blk_cell HBOX1.out 1).trans rfl; have f1 := blk_frozen HBOX1.out 1)
        go_ways
        go_ret
        rw [HE.out, HITS.out]
        obtain ⟨a1, a2, a3⟩ := mem_put1 HBOX1.out HG.out HR1.out HB1.out
        exact ⟨rfl, a1, a2, HK1.out.trans a3⟩
  · have HE := Aside0.mk (show mSay id its s = (its, 14) from by unfold mSay; rw [if_pos h0])
    have d0 : (id != 0) = true := by simpa using h0
    clear h0
    go_enter Try.func25, Try.ntmps25
    go_wp2
    go_ways
    go_ret
    rw [HE.out]
    exact ⟨rfl, HM.out, HB.out, KeepM.refl _⟩
end Go.Proofs.Ytcllcjflgeiehaa.PCastPlays
