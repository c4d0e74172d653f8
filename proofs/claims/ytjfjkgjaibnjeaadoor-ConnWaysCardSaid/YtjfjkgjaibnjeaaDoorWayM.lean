/- Proved: the search of conn.Way as a plain function, what its memory holds while it runs, and how each of its writes turns that. No condition. -/
import Derived.Test.YtjfjkgjaibnjeaaDoorSays
namespace Go.Proofs.YtjfjkgjaibnjeaaDoor.PConnSays
open Go.RowKit Go.Proofs.YtjfjkgjaibnjeaaDoorW.PrintWords Go.Proofs.YtjfjkgjaibnjeaaDoorW.PrintLast Go.Proofs.YtjfjkgjaibnjeaaDoorW.PrintMore
set_option linter.unusedVariables false
set_option linter.unusedSimpArgs false
/-! The search. -/
abbrev St := List (Int × List Int) × List Bool
def stepI (s : Int) (l : List Int) (e : Int) (st : St) : St :=
  if (conn_Step.v s e).2.2 = 0 ∧ st.2.getD (conn_Step.v s e).1.toNat false = false then (st.1 ++ [((conn_Step.v s e).1, l ++ [e])], st.2.set (conn_Step.v s e).1.toNat true) else st
def innr (s : Int) (l : List Int) : Nat → St → St
  | 0, st => st
  | e + 1, st => stepI s l e (innr s l e st)
def outr (st : St) : St := match st.1 with
  | [] => st
  | (s, l) :: _ => ((innr s l 10 st).1.tail, (innr s l 10 st).2)
def seen0 (f : Nat) : List Bool := (List.replicate 11 false).set f true
def chain (f : Nat) : Nat → St
  | 0 => ([((f : Int), [])], seen0 f)
  | k + 1 => outr (chain f k)
def wayGo (t : Int) : Nat → St → Option (List Int)
  | 0, _ => none
  | k + 1, st => match st.1 with
    | [] => none
    | (s, l) :: _ => if s = t then some l else wayGo t k (outr st)
def wayV (f t : Nat) : Option (List Int) := wayGo t 12 (chain f 0)
/-- What the search's states keep, held against every start by the kernel. -/
def fine (f k : Nat) : Bool := match (chain f k).1 with
  | [] => true
  | (s, l) :: _ => decide (0 ≤ s ∧ s ≤ 10) && decide (l.length ≤ 20) && (List.range 11).all fun e =>
      decide ((innr s l e (chain f k)).1.length ≤ 20) && decide ((innr s l e (chain f k)).2.length = 11) && decide ((conn_Step.v s e).2.2 = 0 → 0 ≤ (conn_Step.v s e).1 ∧ (conn_Step.v s e).1 ≤ 10)
theorem fine_all : ∀ f : Fin 11, ∀ k : Fin 12, fine f.val k.val = true := by decide +kernel
theorem wayV_some : ∀ f t : Fin 11, (wayV f.val t.val).isSome = true := by decide +kernel

/-! What the memory holds. -/
abbrev Pl := Int × Value × List Int
def pcells (ps : List Pl) : List Value := ps.flatMap fun p => [.int .i64 p.1, p.2.1]
def WayRow (B : Nat) (wr : World) (v : Value) (l : List Int) : Prop := QRow wr B 3 1 v l.length (l.map (Value.int .i64))
structure Inv (w : World) (bs : Nat) (q : Value) (wr : World) (ps : List Pl) (seen : List Bool) : Prop where
  below : Below w.heap.size w wr
  arr : wr.heap[bs]? = some (.cells (seen.map Value.bool).toArray 40 (0, 0))
  bs0 : w.heap.size ≤ bs
  row : QRow wr w.heap.size 42 2 q ps.length (pcells ps)
  ways : ∀ p ∈ ps, WayRow w.heap.size wr p.2.1 p.2.2
theorem pcells_len (ps : List Pl) : (pcells ps).length = ps.length * 2 := by
  unfold pcells
  induction ps with
  | nil => rfl
  | cons p r ih => rw [List.flatMap_cons, List.length_append, ih, List.length_cons]; simp; omega
theorem Inv.move {w wr wr' : World} {bs : Nat} {q : Value} {ps : List Pl} {seen : List Bool} (h : Inv w bs q wr ps seen) (hb : Below w.heap.size w wr') (hk : ∀ k, k < wr.heap.size → wr'.heap[k]? = wr.heap[k]?) : Inv w bs q wr' ps seen :=
  ⟨hb, (hk bs (blk_lt h.arr)).trans h.arr, h.bs0, q_move h.row (fun k he => hk k (q_lt h.row k he)), fun p hp => q_move (h.ways p hp) (fun k he => hk k (q_lt (h.ways p hp) k he))⟩
theorem row_ne {wr : World} {bs n size B : Nat} {e t : TypeId} {q : Value} {xs : List Value} {cs : Array Value} (h : QRow wr B e size q n xs) (ha : wr.heap[bs]? = some (.cells cs t (0, 0))) (hne : e ≠ t) : ∀ k, q.ownBlock = some k → k ≠ bs := by
  intro k hk
  obtain ⟨_, cells, hc⟩ := q_typed h k hk
  exact blk_ne hc ha hne
theorem Inv.mark {w wr : World} {bs : Nat} {q : Value} {ps : List Pl} {seen : List Bool} (h : Inv w bs q wr ps seen) (i : Nat) : Inv w bs q (wr.setCell ⟨bs, i, none⟩ (.bool true)) ps (seen.set i true) := by
  refine ⟨h.below.setCell h.bs0 _, ?_, h.bs0, q_move h.row (fun k he => ?_), fun p hp => q_move (h.ways p hp) (fun k he => ?_)⟩
  · have := blk_set h.arr i (.bool true)
    rw [this]
    simp [List.map_set]
  · exact Below.heap_setCell _ _ _ _ (row_ne h.row h.arr (by decide) k he)
  · exact Below.heap_setCell _ _ _ _ (row_ne (h.ways p hp) h.arr (by decide) k he)
theorem info3 : (Tryd.prog.info? 3).map (fun i => (i.zero, i.size, i.bytes)) = some (some (.int .i64 0), 1, 8) := by kernel_rfl
theorem info42 : (Tryd.prog.info? 42).map (fun i => (i.zero, i.size, i.bytes)) = some (some (.agg #[.int .i64 0, .slice none 0 0]), 2, 32) := by kernel_rfl
theorem way_append {wr : World} {B : Nat} {A : Option Addr} {c : Nat} {l : List Int} (h : WayRow B wr (.slice A l.length c) l) (hB : B ≤ wr.heap.size) (hl : l.length ≤ 1000) (e : Int) :
    ∃ v1 w1, (Builtin.append_ #[31, 31] 31 #[.slice A l.length l.length, .slice (some ⟨wr.heap.size, 0, none⟩) 1 1]).run Tryd.prog (wr.alloc (.cells #[.int .i64 e] 3)) = .ok v1 w1 ∧ WayRow B w1 v1 (l ++ [e]) ∧ wr.grownBy w1 none := by
  obtain ⟨i0, hi, hz⟩ := Option.map_eq_some_iff.1 info3
  simp only [Prod.mk.injEq] at hz
  obtain ⟨hz0, hz1, hz2⟩ := hz
  have hnew : (wr.alloc (.cells #[.int .i64 e] 3)).heap[wr.heap.size]? = some (.cells #[.int .i64 e] 3 (0, 0)) := heap_alloc_new wr _
  have hnews : ∀ (j : Nat) (u : Value), [Value.int .i64 e][j]? = some u → (wr.alloc (.cells #[.int .i64 e] 3)).cell? ((⟨wr.heap.size, 0, none⟩ : Addr).add j) = some u := World.news_of_block (cs := #[.int .i64 e]) hnew
  have hcell : ∀ {a : Addr} {u : Value}, wr.cell? a = some u → (wr.alloc (.cells #[.int .i64 e] 3)).cell? a = some u := by
    intro a u hu
    have hlt := World.block_lt_of_cell? wr a hu
    rw [← hu]
    exact World.cell?_of_block (heap_alloc_old wr _ hlt)
  have hm : maxLen = 9223372036854775807 := rfl
  have hga := World.grownBy_alloc wr (.cells #[.int .i64 e] 3) none
  have hmap : (l ++ [e]).map (Value.int .i64) = l.map (Value.int .i64) ++ [Value.int .i64 e] := by simp
  have hlen : (l ++ [e]).length = l.length + 1 := by simp
  cases A with
  | none =>
    have h0 : l.length = 0 := by
      rcases h.2 with ⟨h0, _⟩ | ⟨g, off, cap, cur, he, _⟩
      · exact h0
      · injection he with he; cases he
    obtain rfl : l = [] := List.eq_nil_of_length_eq_zero h0
    have hq : QRow (wr.alloc (.cells #[.int .i64 e] 3)) B 3 1 (.slice none 0 0) 0 [] := ⟨rfl, .inl ⟨rfl, none, rfl, fun a ha => by cases ha⟩⟩
    obtain ⟨v1, w1, hr, hq1, hg1, _⟩ := q_append (P := Tryd.prog) (wr.alloc (.cells #[.int .i64 e] 3)) B 31 31 3 i0 (.int .i64 0) 1 8 Tryd.underlying31 hi hz0 hz1 hz2 rfl (by decide) (.slice none 0 0) 0 [] hq ⟨wr.heap.size, 0, none⟩ 1 1 [.int .i64 e] rfl hnews
      (fun u hu => by simp at hu; subst hu; rfl) (by decide) (by rw [hm]; decide) (by decide) (by rw [World.size_alloc]; omega)
    exact ⟨v1, w1, hr, hq1, World.grownBy.trans hga hg1⟩
  | some b =>
    have holds : ∀ j u, (l.map (Value.int .i64))[j]? = some u → (wr.alloc (.cells #[.int .i64 e] 3)).cell? (b.add j) = some u := by
      intro j u hu
      have hj : j < l.length := by
        have := (List.getElem?_eq_some_iff.1 hu).1
        simpa using this
      obtain ⟨ad, ha, hc⟩ := q_cells h (by omega)
      injection ha with ha
      subst ha
      exact hcell (hc j u hu)
    obtain ⟨v1, w1, hr, ho, hg1⟩ := run_append_arg_grows (P := Tryd.prog) (w := wr.alloc (.cells #[.int .i64 e] 3)) 31 31 3 i0 (.int .i64 0) 1 8 Tryd.underlying31 hi hz0 hz1 hz2 rfl (by decide) b l.length l.length (l.map (Value.int .i64)) (by simp) holds
      ⟨wr.heap.size, 0, none⟩ 1 1 [.int .i64 e] rfl hnews (by omega) (by rw [hm]; omega) (by omega)
    refine ⟨v1, w1, hr, ?_, World.grownBy.trans hga hg1⟩
    unfold WayRow
    rw [hmap, hlen]
    exact q_lower (q_of_own ho) (by rw [World.size_alloc]; omega)
theorem Inv.push {w wr w1 : World} {bs : Nat} {q v1 : Value} {ps : List Pl} {seen : List Bool} {nx : Int} {l : List Int} (h : Inv w bs q wr ps seen) (hn : ps.length ≤ 1000) (hv : WayRow w.heap.size w1 v1 l) (hv1 : v1.oneCell' = true) (hg : wr.grownBy w1 none) :
    ∃ q2 w2, (Builtin.append_ #[43, 43] 43 #[q, .slice (some ⟨w1.heap.size, 0, none⟩) 1 1]).run Tryd.prog (w1.alloc (.cells #[.int .i64 nx, v1] 42)) = .ok q2 w2 ∧ Inv w bs q2 w2 (ps ++ [(nx, v1, l)]) seen ∧
      (∀ k, k < wr.heap.size → q.ownBlock ≠ some k → w2.heap[k]? = wr.heap[k]?) ∧ (q2.ownBlock = q.ownBlock ∨ ∃ b, q2.ownBlock = some b ∧ wr.heap.size ≤ b) := by
  obtain ⟨i0, hi, hz⟩ := Option.map_eq_some_iff.1 info42
  simp only [Prod.mk.injEq] at hz
  obtain ⟨hz0, hz1, hz2⟩ := hz
  have hm : maxLen = 9223372036854775807 := rfl
  have hnew : (w1.alloc (.cells #[.int .i64 nx, v1] 42)).heap[w1.heap.size]? = some (.cells #[.int .i64 nx, v1] 42 (0, 0)) := heap_alloc_new w1 _
  have hnews : ∀ (j : Nat) (u : Value), [Value.int .i64 nx, v1][j]? = some u → (w1.alloc (.cells #[.int .i64 nx, v1] 42)).cell? ((⟨w1.heap.size, 0, none⟩ : Addr).add j) = some u := World.news_of_block (cs := #[.int .i64 nx, v1]) hnew
  have hga := World.grownBy.trans hg (World.grownBy_alloc w1 (.cells #[.int .i64 nx, v1] 42) none)
  have hold : ∀ k, k < wr.heap.size → (w1.alloc (.cells #[.int .i64 nx, v1] 42)).heap[k]? = wr.heap[k]? := fun k hk => hga.block k hk (by simp)
  have hsz : wr.heap.size ≤ w1.heap.size := hg.size
  have hbs : w.heap.size ≤ wr.heap.size := h.below.size
  have hI := h.move (wr' := w1.alloc (.cells #[.int .i64 nx, v1] 42)) (h.below.grown hga hbs (fun k hk => by cases hk)) hold
  obtain ⟨q2, w2, hr, hq2, hg2, hat⟩ := q_append (P := Tryd.prog) (w1.alloc (.cells #[.int .i64 nx, v1] 42)) w.heap.size 43 43 42 i0 _ 2 32 Tryd.underlying43 hi hz0 hz1 hz2 rfl (by decide) q ps.length (pcells ps) hI.row ⟨w1.heap.size, 0, none⟩ 1 1 [.int .i64 nx, v1] rfl hnews
    (fun u hu => by
      simp only [List.mem_cons, List.not_mem_nil, or_false] at hu
      rcases hu with h1 | h1
      · rw [h1]; rfl
      · rw [h1]; exact hv1) (by decide) (by rw [hm]; omega) (by omega) (by rw [World.size_alloc]; omega)
  have hsz2 : (w1.alloc (.cells #[.int .i64 nx, v1] 42)).heap.size = w1.heap.size + 1 := World.size_alloc _ _
  have keep3 : ∀ {v : Value} {m : List Int}, WayRow w.heap.size (w1.alloc (.cells #[.int .i64 nx, v1] 42)) v m → WayRow w.heap.size w2 v m := by
    intro v m hvm
    refine q_move hvm (fun k he => hg2.block k (q_lt hvm k he) ?_)
    intro hq
    obtain ⟨_, c3, hc3⟩ := q_typed hvm k he
    obtain ⟨_, c4, hc4⟩ := q_typed hI.row k hq.symm
    exact blk_ne hc3 hc4 (by decide) rfl
  refine ⟨q2, w2, hr, ⟨hI.below.grown hg2 (by rw [hsz2]; omega) (fun k hk => (q_typed hI.row k hk).1), ?_, h.bs0, ?_, ?_⟩, ?_, ?_⟩
  · refine (hg2.block bs (blk_lt hI.arr) ?_).trans hI.arr
    intro hq
    exact row_ne hI.row hI.arr (by decide) bs hq.symm rfl
  · have e1 : pcells (ps ++ [(nx, v1, l)]) = pcells ps ++ [.int .i64 nx, v1] := by unfold pcells; simp
    have e2 : (ps ++ [(nx, v1, l)]).length = ps.length + 1 := by simp
    rw [e1, e2]
    exact hq2
  · intro p hp
    rcases List.mem_append.1 hp with hp | hp
    · exact keep3 (hI.ways p hp)
    · obtain rfl := List.mem_singleton.1 hp
      exact keep3 (q_move hv (fun k he => heap_alloc_old w1 _ (q_lt hv k he)))
  · intro k hk hq
    exact (hg2.block k (by rw [hsz2]; omega) (fun he => hq he.symm)).trans (hold k hk)
  · rcases hat with hat | ⟨b, hb, hle⟩
    · exact .inl hat
    · exact .inr ⟨b, hb, by rw [hsz2] at hle; omega⟩
/-- The queue without its first place. -/
theorem Inv.pop {w wr : World} {bs : Nat} {A : Option Addr} {c : Nat} {p : Pl} {ps : List Pl} {seen : List Bool} (h : Inv w bs (.slice A (p :: ps).length c) wr (p :: ps) seen) :
    Inv w bs (.slice (if c = 1 then A else A.map (·.add (1 * 2))) ((p :: ps).length - 1) (c - 1)) wr ps seen := by
  have := q_drop (k := 1) h.row (by simp)
  refine ⟨h.below, h.arr, h.bs0, ?_, fun x hx => h.ways x (List.mem_cons_of_mem _ hx)⟩
  have e : (pcells (p :: ps)).drop (1 * 2) = pcells ps := by unfold pcells; simp
  rw [e] at this
  exact this
end Go.Proofs.YtjfjkgjaibnjeaaDoor.PConnSays
