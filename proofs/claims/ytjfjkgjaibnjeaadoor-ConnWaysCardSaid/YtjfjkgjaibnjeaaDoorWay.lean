/- Proved: conn.Way returns the way that the search finds, for two states of a connection, in any world that holds the table of transitions. -/
import Derived.Test.YtjfjkgjaibnjeaaDoorWayM
namespace Go.Proofs.YtjfjkgjaibnjeaaDoor.PConnSays
open Go.RowKit Go.Proofs.YtjfjkgjaibnjeaaDoorW.PrintWords Go.Proofs.YtjfjkgjaibnjeaaDoorW.PrintLast Go.Proofs.YtjfjkgjaibnjeaaDoorW.PrintMore
set_option linter.unusedVariables false
set_option linter.unusedSimpArgs false
def plain (ps : List Pl) : List (Int × List Int) := ps.map fun p => (p.1, p.2.2)
/-- What holds at the head of the outer loop. -/
def OutRel (w : World) (f t bs n : Nat) (q : Value) (wr : World) : Prop := ∃ (k : Nat) (ps : List Pl), k + n = 12 ∧ wayGo t n (chain f k) = wayV f t ∧ plain ps = (chain f k).1 ∧ Inv w bs q wr ps (chain f k).2
/-- What holds at the head of the inner loop: the place x lies in block bx; it heads the queue. -/
def InnRel (w : World) (f t bs bx k : Nat) (s : Int) (l : List Int) (v : Value) (n : Nat) (q ev : Value) (wr : World) : Prop := ∃ (e : Nat) (ps : List Pl), e + n = 10 ∧ ev = .int .i64 e ∧ plain ((s, v, l) :: ps) = (innr s l e (chain f k)).1 ∧ Inv w bs q wr ((s, v, l) :: ps) (innr s l e (chain f k)).2 ∧
  wr.heap[bx]? = some (.cells #[.int .i64 s, v] 42 (0, 0)) ∧ w.heap.size ≤ bx ∧ q.ownBlock ≠ some bx
def WayPost (w : World) (f t : Nat) (x : Ending) (w' : World) : Prop := ∃ (l : List Int) (v : Value), wayV f t = some l ∧ x = .returned (.tuple #[v, .int .i64 0]) ∧ WayRow w.heap.size w' v l ∧ Below w.heap.size w w'
theorem head_cells {wr : World} {B n : Nat} {q v : Value} {s : Int} {l : List Int} {ps : List Pl} (h : QRow wr B 42 2 q (n + 1) (pcells ((s, v, l) :: ps))) :
    ∃ g o c, q = .slice (some ⟨g, o, none⟩) (n + 1) c ∧ wr.cell? ⟨g, o, none⟩ = some (.int .i64 s) ∧ wr.cell? ⟨g, o + 1, none⟩ = some v ∧ n + 1 ≤ c := by
  rcases h.2 with ⟨h0, _⟩ | ⟨g, off, cap, cur, he, hg, hh, hnc, hm, hcs, ht⟩
  · omega
  · have hx := h
    rw [he] at hx
    obtain ⟨ad, ha, hc⟩ := q_cells hx (by omega)
    injection ha with ha
    subst ha
    refine ⟨g, off * 2, cap, he, ?_, ?_, hnc⟩
    · have := hc 0 (.int .i64 s) rfl
      rwa [add_at, Nat.add_zero] at this
    · have := hc 1 v rfl
      rwa [add_at] at this
/-- What the kernel's look at the search's states says of one state. -/
theorem fine_at (f k : Nat) (hf : f < 11) (hk : k < 12) (s : Int) (l : List Int) (r : List (Int × List Int)) (h : (chain f k).1 = (s, l) :: r) :
    (0 ≤ s ∧ s ≤ 10) ∧ l.length ≤ 20 ∧ ∀ e, e ≤ 10 → (innr s l e (chain f k)).1.length ≤ 20 ∧ (innr s l e (chain f k)).2.length = 11 ∧ ((conn_Step.v s e).2.2 = 0 → 0 ≤ (conn_Step.v s e).1 ∧ (conn_Step.v s e).1 ≤ 10) := by
  have := fine_all ⟨f, hf⟩ ⟨k, hk⟩
  simp only [fine, h, Bool.and_eq_true, decide_eq_true_eq, List.all_eq_true, List.mem_range] at this
  exact ⟨this.1.1, this.1.2, fun e he => ⟨(this.2 e (by omega)).1.1, (this.2 e (by omega)).1.2, (this.2 e (by omega)).2⟩⟩
theorem OutRel.open {w wr : World} {f t bs n : Nat} {q : Value} (hf : f < 11) (ht : t < 11) (h : OutRel w f t bs n q wr) :
    ∃ (k m : Nat) (s : Int) (v : Value) (l : List Int) (ps : List Pl), k < 12 ∧ n = m + 1 ∧ k + n = 12 ∧ (chain f k).1 = (s, l) :: plain ps ∧ Inv w bs q wr ((s, v, l) :: ps) (chain f k).2 ∧ (s = t → wayV f t = some l) ∧ (s ≠ t → wayGo t m (chain f (k + 1)) = wayV f t) := by
  obtain ⟨k, ps, hk, hgo, hpl, hinv⟩ := h
  have hs : (wayV f t).isSome = true := wayV_some ⟨f, hf⟩ ⟨t, ht⟩
  rw [← hgo] at hs
  cases n with
  | zero => simp [wayGo] at hs
  | succ m =>
    rw [wayGo] at hs hgo
    cases ps with
    | nil => rw [← hpl] at hs; simp [plain] at hs
    | cons p ps =>
      obtain ⟨s, v, l⟩ := p
      have hpl' : (chain f k).1 = (s, l) :: plain ps := hpl.symm
      rw [hpl'] at hgo
      refine ⟨k, m, s, v, l, ps, by omega, rfl, hk, hpl', hinv, fun he => ?_, fun he => ?_⟩
      · rw [← hgo]; simp [he]
      · rw [← hgo]; simp [he]; rfl
theorem way_done {w wr : World} {f t bs : Nat} {q v : Value} {s : Int} {l : List Int} {ps : List Pl} {seen : List Bool} (h : Inv w bs q wr ((s, v, l) :: ps) seen) (hy : wayV f t = some l) (o : Obj) (x : Ending) (hx : x = .returned (.tuple #[v, .int .i64 0])) : WayPost w f t x (wr.alloc o) :=
  ⟨l, v, hy, hx, q_move (h.ways (s, v, l) (List.mem_cons_self ..)) (fun k he => heap_alloc_old wr o (q_lt (h.ways (s, v, l) (List.mem_cons_self ..)) k he)), h.below.alloc h.below.size o⟩
theorem Inv.box {w wr : World} {bs : Nat} {q v : Value} {s : Int} {l : List Int} {ps : List Pl} {seen : List Bool} (h : Inv w bs q wr ((s, v, l) :: ps) seen) (f t k : Nat) (hch : (chain f k).1 = (s, l) :: plain ps) (hseen : seen = (chain f k).2) (ev : Value) (hev : ev = .int .i64 0) :
    InnRel w f t bs wr.heap.size k s l v 10 q ev (wr.alloc (.cells #[.int .i64 s, v] 42)) := by
  refine ⟨0, ps, rfl, hev, hch.symm, ?_, heap_alloc_new wr _, h.below.size, fun hq => ?_⟩
  · rw [hseen] at h
    exact h.move (h.below.alloc h.below.size _) (fun k hk => heap_alloc_old wr _ hk)
  · exact absurd (q_lt h.row _ hq) (Nat.lt_irrefl _)
theorem stepI_no {s : Int} {l : List Int} {e : Int} {st : St} (h : ¬ ((conn_Step.v s e).2.2 = 0 ∧ st.2.getD (conn_Step.v s e).1.toNat false = false)) : stepI s l e st = st := if_neg h
theorem stepI_yes {s : Int} {l : List Int} {e : Int} {st : St} (h : (conn_Step.v s e).2.2 = 0 ∧ st.2.getD (conn_Step.v s e).1.toNat false = false) : stepI s l e st = (st.1 ++ [((conn_Step.v s e).1, l ++ [e])], st.2.set (conn_Step.v s e).1.toNat true) := if_pos h
theorem cut_full (A : Option Addr) (n c : Nat) (h : n ≤ c) (W : World) : (Instr.slice 31 (.slice A n c) none (some (.int .i64 (n : Int))) (some (.int .i64 (n : Int)))).run Tryd.prog W = .ok (.slice A n n) W := by
  obtain ⟨i0, hi, hz⟩ := Option.map_eq_some_iff.1 info3
  simp [Instr.slice, run_underlying Tryd.underlying31, go_sem, sizeOf, typeInfo, hi]
  intro hc
  omega
/-- The queue's cut 'queue[1:]', and what it leaves. -/
theorem Inv.cut {w wr : World} {bs : Nat} {q : Value} {p : Pl} {ps : List Pl} {seen : List Bool} (h : Inv w bs q wr (p :: ps) seen) :
    ∃ q', (∀ W : World, (Instr.slice 43 q (some (.int .i64 1)) none none).run Tryd.prog W = .ok q' W) ∧ Inv w bs q' wr ps seen := by
  obtain ⟨A, c, rfl, hnc⟩ := q_slice h.row
  obtain ⟨i0, hi, hz⟩ := Option.map_eq_some_iff.1 info42
  simp only [Prod.mk.injEq] at hz
  exact ⟨_, cut_from (P := Tryd.prog) 43 42 .i64 Tryd.underlying43 hi 2 hz.2.1 A (p :: ps).length c 1 (by omega) (by simp; omega), h.pop⟩
theorem plain_cons (p : Pl) (ps : List Pl) : plain (p :: ps) = (p.1, p.2.2) :: plain ps := rfl
theorem plain_snoc (ps : List Pl) (p : Pl) : plain (ps ++ [p]) = plain ps ++ [(p.1, p.2.2)] := by unfold plain; simp
theorem out_next {w wr : World} {f t bs k m : Nat} {s : Int} {l : List Int} {v q' : Value} {ps : List Pl} {r : List (Int × List Int)} (hch : (chain f k).1 = (s, l) :: r) (hkn : k + (m + 1) = 12) (hno : wayGo t m (chain f (k + 1)) = wayV f t)
    (hpl : plain ((s, v, l) :: ps) = (innr s l 10 (chain f k)).1) (h : Inv w bs q' wr ps (innr s l 10 (chain f k)).2) : OutRel w f t bs m q' wr := by
  have e : chain f (k + 1) = ((innr s l 10 (chain f k)).1.tail, (innr s l 10 (chain f k)).2) := by
    show outr (chain f k) = _
    unfold outr
    rw [hch]
  refine ⟨k + 1, ps, by omega, hno, ?_, ?_⟩
  · rw [e, ← hpl]; rfl
  · rw [e]; exact h
theorem inn_skip {w wr wr' : World} {f t bs bx k e n : Nat} {s : Int} {l : List Int} {v q ev : Value} {ps : List Pl} (he : e + (n + 1) = 10) (hev : ev = .int .i64 ((e : Int) + 1)) (hpl : plain ((s, v, l) :: ps) = (innr s l e (chain f k)).1)
    (h : Inv w bs q wr ((s, v, l) :: ps) (innr s l e (chain f k)).2) (hbox : wr.heap[bx]? = some (.cells #[.int .i64 s, v] 42 (0, 0))) (hbx : w.heap.size ≤ bx) (hq : q.ownBlock ≠ some bx) (hb : Below wr.heap.size wr wr')
    (hno : ¬ ((conn_Step.v s e).2.2 = 0 ∧ (innr s l e (chain f k)).2.getD (conn_Step.v s e).1.toNat false = false)) : InnRel w f t bs bx k s l v n q ev wr' := by
  have e1 : innr s l (e + 1) (chain f k) = innr s l e (chain f k) := stepI_no hno
  refine ⟨e + 1, ps, by omega, by rw [hev]; rfl, by rw [e1]; exact hpl, by rw [e1]; exact h.move (h.below.trans (hb.mono h.below.size)) (fun k hk => hb.block k hk), blk_below hbox hb, hbx, hq⟩
theorem wpList_append_run {P : Program} {ops : Array Oper} {rest : List Oper} {o : Oper} {a : Act} {w w' : World} {Q : Exit → Act → World → Prop} (hgd : o.guard = none) (s x : Operand) (t : TypeId)
    (ho : o.op = .call { callee := .builtin .append, args := #[s, x], argTypes := #[t, t] }) (vs vx v' : Value) (hs : a.eval s = vs) (hx : a.eval x = vx) (hr : (Builtin.append_ #[t, t] o.type #[vs, vx]).run P w = .ok v' w')
    (h : wpList P ops Q rest (a.put o.dst v') w') : wpList P ops Q (o :: rest) a w := by
  refine wpList_plain hgd fun K hK => ?_
  unfold Oper.wp execOp
  simp only [ho, resolve, invoke, builtin, Sem.run_bind, Sem.run_pure, Result.andThen_ok, List.map_toArray, List.map_cons, List.map_nil, hs, hx, hr]
  exact hK _ _ h
theorem Inv.grow {w wr w3 : World} {bs nx : Nat} {q : Value} {ps : List Pl} {seen : List Bool} (h : Inv w bs q wr ps seen) (hb : Below wr.heap.size wr w3) : Inv w bs q (w3.setCell ⟨bs, nx, none⟩ (.bool true)) ps (seen.set nx true) :=
  (h.move (h.below.trans (hb.mono h.below.size)) (fun k hk => hb.block k hk)).mark nx
theorem box_grow {w wr w3 : World} {bs bx nx : Nat} {q : Value} {ps : List Pl} {seen : List Bool} {cs : Array Value} (h : Inv w bs q wr ps seen) (hb : Below wr.heap.size wr w3) (hbox : wr.heap[bx]? = some (.cells cs 42 (0, 0))) : (w3.setCell ⟨bs, nx, none⟩ (.bool true)).heap[bx]? = some (.cells cs 42 (0, 0)) :=
  blk_far (blk_below hbox hb) (p := ⟨bs, nx, none⟩) (blk_ne hbox h.arr (by decide)) _
/-- The two appends of a round that finds a new state. -/
theorem Inv.both {w wS : World} {bs : Nat} {q : Value} {Av : Option Addr} {cv : Nat} {s : Int} {l : List Int} {ps : List Pl} {seen : List Bool} (h : Inv w bs q wS ((s, .slice Av l.length cv, l) :: ps) seen) (hn : ((s, Value.slice Av l.length cv, l) :: ps).length ≤ 1000) (hl : l.length ≤ 1000) (nx e : Int) :
    ∃ A1 c1 w4 q2 w5, (Builtin.append_ #[31, 31] 31 #[.slice Av l.length l.length, .slice (some ⟨wS.heap.size, 0, none⟩) 1 1]).run Tryd.prog (wS.alloc (.cells #[.int .i64 e] 3)) = .ok (.slice A1 (l.length + 1) c1) w4 ∧
      (Builtin.append_ #[43, 43] 43 #[q, .slice (some ⟨w4.heap.size, 0, none⟩) 1 1]).run Tryd.prog (w4.alloc (.cells #[.int .i64 nx, .slice A1 (l.length + 1) c1] 42)) = .ok q2 w5 ∧
      Inv w bs q2 w5 (((s, .slice Av l.length cv, l) :: ps) ++ [(nx, .slice A1 (l.length + 1) c1, l ++ [e])]) seen ∧ (∀ k, k < wS.heap.size → q.ownBlock ≠ some k → w5.heap[k]? = wS.heap[k]?) ∧ (q2.ownBlock = q.ownBlock ∨ ∃ b, q2.ownBlock = some b ∧ wS.heap.size ≤ b) := by
  have hw0 : WayRow w.heap.size wS (.slice Av l.length cv) l := h.ways (s, .slice Av l.length cv, l) (List.mem_cons_self ..)
  obtain ⟨v1, w4, hr1, hw1, hg⟩ := way_append hw0 h.below.size hl e
  obtain ⟨A1, c1, rfl, _⟩ := q_slice hw1
  have hlen : (l ++ [e]).length = l.length + 1 := by simp
  rw [hlen] at hr1 hw1
  obtain ⟨q2, w5, hr2, hi2, hk, hat⟩ := h.push (nx := nx) hn (l := l ++ [e]) hw1 rfl hg
  exact ⟨A1, c1, w4, q2, w5, hr1, hr2, hi2, hk, hat⟩
theorem inn_push {w wS w5 : World} {f t bs bx k e n nx : Nat} {y : Int} {s : Int} {l : List Int} {v v1 q q2 ev : Value} {ps : List Pl} (he : e + (n + 1) = 10) (hev : ev = .int .i64 ((e : Int) + 1)) (hpl : plain ((s, v, l) :: ps) = (innr s l e (chain f k)).1)
    (hst : conn_Step.v s e = ((nx : Int), y, 0)) (hsb : (innr s l e (chain f k)).2.getD nx false = false) (h : Inv w bs q2 w5 (((s, v, l) :: ps) ++ [((nx : Int), v1, l ++ [(e : Int)])]) ((innr s l e (chain f k)).2.set nx true))
    (hbox : wS.heap[bx]? = some (.cells #[.int .i64 s, v] 42 (0, 0))) (hbx : w.heap.size ≤ bx) (hq : q.ownBlock ≠ some bx) (hk : ∀ k, k < wS.heap.size → q.ownBlock ≠ some k → w5.heap[k]? = wS.heap[k]?) (hat : q2.ownBlock = q.ownBlock ∨ ∃ b, q2.ownBlock = some b ∧ wS.heap.size ≤ b) :
    InnRel w f t bs bx k s l v n q2 ev w5 := by
  have e1 : innr s l (e + 1) (chain f k) = ((innr s l e (chain f k)).1 ++ [((nx : Int), l ++ [(e : Int)])], (innr s l e (chain f k)).2.set nx true) := by
    have := stepI_yes (s := s) (l := l) (e := (e : Int)) (st := innr s l e (chain f k)) (by rw [hst]; exact ⟨rfl, by simpa using hsb⟩)
    rw [hst] at this
    show stepI s l (e : Int) (innr s l e (chain f k)) = _
    rw [this]
    simp
  refine ⟨e + 1, ps ++ [((nx : Int), v1, l ++ [(e : Int)])], by omega, by rw [hev]; rfl, ?_, by rw [e1]; exact h, (hk bx (blk_lt hbox) hq).trans hbox, hbx, ?_⟩
  · rw [e1]
    have := plain_snoc ((s, v, l) :: ps) ((nx : Int), v1, l ++ [(e : Int)])
    rw [hpl] at this
    exact this
  · rcases hat with hat | ⟨b, hb, hle⟩
    · rw [hat]; exact hq
    · rw [hb]
      intro hc
      injection hc with hc
      have := blk_lt hbox
      omega
theorem start_rel {w w2 : World} {f t bs : Nat} (hb : Below w.heap.size w w2) (hbs : bs = w2.heap.size) (q : Value) (hq : q = .slice (some ⟨bs + 1, 0, none⟩) 1 1) (cs : Array Value) (hcs : cs = ((seen0 f).map Value.bool).toArray) :
    OutRel w f t bs 12 q ((w2.alloc (.cells cs 40)).alloc (.cells #[.int .i64 f, .slice none 0 0] 42)) := by
  subst hbs
  have h1 := heap_alloc_new w2 (.cells cs 40)
  have h2 := heap_alloc_new (w2.alloc (.cells cs 40)) (.cells #[.int .i64 f, .slice none 0 0] 42)
  rw [World.size_alloc] at h2
  refine ⟨0, [((f : Int), .slice none 0 0, [])], rfl, rfl, rfl, (hb.alloc hb.size _).alloc (by rw [World.size_alloc]; have := hb.size; omega) _, ?_, hb.size, ?_, fun p hp => ?_⟩
  · rw [hcs] at h1 ⊢
    exact (heap_alloc_old _ _ (by rw [World.size_alloc]; omega)).trans h1
  · refine ⟨rfl, .inr ⟨w2.heap.size + 1, 0, 1, #[.int .i64 f, .slice none 0 0], by rw [hq]; rfl, by have := hb.size; omega, h2, Nat.le_refl _, by decide, rfl, rfl⟩⟩
  · obtain rfl := List.mem_singleton.1 hp
    exact ⟨rfl, .inl ⟨rfl, none, rfl, fun a ha => by cases ha⟩⟩
set_option maxHeartbeats 4000000 in
set_option maxRecDepth 100000 in
theorem way_in (f t : Nat) (hf : f < 11) (ht : t < 11) (w : World) (hT : Tab w) : Calls Tryd.prog 10 #[.int .i64 f, .int .i64 t] w (WayPost w f t) := by
  have HT := Aside0.mk hT
  clear hT
  have HC := Aside0.mk (check_ok (f : Int) (by omega))
  have HD := Aside0.mk (check_ok (t : Int) (by omega))
  go_enter Tryd.func10, Tryd.ntmps10
  go_wp2_with (first | (go_at_call 8; (with_reducible refine (conn_Check.calls (f : Int) 0 _ HC.out).mono ?_); rintro e' w1 ⟨rfl, hd1⟩) | (go_at_call 8; (with_reducible refine (conn_Check.calls (t : Int) 0 _ HD.out).mono ?_); rintro e' w2 ⟨rfl, hd2⟩))
  have HB2 := Aside0.mk (bt hd1.below hd2.below)
  clear hd1 hd2
  obtain ⟨bs, hbs⟩ : ∃ b : Nat, b = w2.heap.size := ⟨_, rfl⟩
  have HBS := Aside0.mk hbs
  rw [← hbs]
  clear hbs
  go_loopg [7] 12 (fun n q wr => OutRel w f t bs n q wr)
  case atStart => exact start_rel HB2.out HBS.out _ rfl _ (by unfold seen0; rw [List.map_set]; rfl)
  case round =>
    obtain ⟨k, m, s, v, l, ps, hk12, rfl, hkn, hch, hinv, hyes, hno⟩ := OutRel.open hf ht hrel
    clear hrel
    obtain ⟨hs, hl20, hfine⟩ := fine_at f k hf hk12 s l _ hch
    have HY := Aside0.mk hyes
    have HN := Aside0.mk hno
    have HCH := Aside0.mk hch
    have HF := Aside0.mk hfine
    have HK := Aside0.mk hkn
    clear hyes hno hch hfine hkn
    obtain ⟨g, o, c, rfl, c0, c1, hnc⟩ := head_cells hinv.row
    have hw0 : WayRow w.heap.size wr v l := hinv.ways (s, v, l) (List.mem_cons_self ..)
    obtain ⟨Av, cv, rfl, hvc⟩ := q_slice hw0
    clear hw0
    have HI := Aside0.mk hinv
    clear hinv
    obtain ⟨n, hn⟩ : ∃ n, n = ps.length := ⟨_, rfl⟩
    rw [← hn] at hnc HI ⊢
    have HLN := Aside0.mk hn
    clear hn
    have dn : decide ((0 : Int) < ((n : Nat) : Int) + 1) = true := decide_eq_true (by omega)
    by_cases hst : s = t
    · have HST := Aside0.mk hst
      have b0 : (s == (t : Int)) = true := beq_iff_eq.mpr hst
      clear hst
      go_wp2
      go_ret2
      exact way_done HI.out (HY.out HST.out) _ _ rfl
    · have HST := Aside0.mk hst
      have b0 : (s == (t : Int)) = false := beq_eq_false_iff_ne.mpr hst
      clear hst
      obtain ⟨wo, hwo⟩ : ∃ wo : World, wo = wr := ⟨_, rfl⟩
      subst hwo
      go_wp2
      go_loopg [7, 9] 10 (fun n q ev wr => InnRel w f t bs wo.heap.size k s l (.slice Av l.length cv) n q ev wr)
      case atStart => exact HI.out.box f t k HCH.out rfl _ rfl
      case round =>
        obtain ⟨e, ps2, he, rfl, hpl, hinv, hbox, hbx0, hqb⟩ := hrel
        obtain ⟨hl1, hl2, hx⟩ := HF.out e (by omega)
        by_cases hlt : e < 10
        · obtain ⟨n2, rfl⟩ : ∃ m, gk = m + 1 := ⟨gk - 1, by omega⟩
          have dlt : decide ((e : Int) ≤ 9) = true := decide_eq_true (by omega)
          obtain ⟨x, y, z, hst⟩ : ∃ x y z, conn_Step.v s e = (x, y, z) := ⟨_, _, _, rfl⟩
          rw [hst] at hx
          have HX := Aside0.mk hx
          have HPL := Aside0.mk hpl
          have HI2 := Aside0.mk hinv
          have HBOX := Aside0.mk hbox
          have HQB := Aside0.mk hqb
          have HE := Aside0.mk he
          have HSV := Aside0.mk hst
          have HL1 := Aside0.mk hl1
          have HL2 := Aside0.mk hl2
          have HBX := Aside0.mk hbx0
          clear hx hpl hinv hbox hqb he hst hl1 hl2 hbx0
          have cb0 := blk_cell HBOX.out 0
          by_cases hz : z = 0
          · obtain ⟨nx, rfl⟩ : ∃ nx : Nat, x = nx := ⟨x.toNat, by have := HX.out hz; omega⟩
            have hnx : nx < 11 := by have := HX.out hz; omega
            subst hz
            obtain ⟨b, hsb⟩ : ∃ b, (innr s l e (chain f k)).2.getD nx false = b := ⟨_, rfl⟩
            have HSB := Aside0.mk hsb
            clear hsb
            have CB := Aside0.mk (show wr.cell? ⟨bs, nx, none⟩ = some (.bool b) by
              have h1 := blk_cell HI2.out.arr nx
              have h2 := HL2.out
              rw [h1, ← HSB.out]
              simp [List.getD, show nx < (innr s l e (chain f k)).2.length from by omega])
            have CL := Aside0.mk (blk_lt HI2.out.arr)
            cases b
            · go_upto_region 17 with (go_at_call 7; (with_reducible refine (step_eq (Tab_below HI2.out.below (Tab_pos HT.out) HT.out) HSV.out).mono ?_); rintro e' w3 ⟨rfl, hb3⟩; have hc3 := (hb3.cell (p := ⟨bs, nx, none⟩) CL.out).trans CB.out; have hf3 := (hb3.frozen (p := ⟨bs, nx, none⟩) CL.out).trans (blk_frozen HI2.out.arr nx); have HB3 := Aside0.mk hb3; clear hb3)
              have HIS := Aside0.mk (HI2.out.grow (nx := nx) HB3.out)
              have HBS2 := Aside0.mk (box_grow (nx := nx) HI2.out HB3.out HBOX.out)
              clear hc3 hf3
              generalize World.setCell w3 ⟨bs, nx, none⟩ (.bool true) = wS at HIS HBS2 ⊢
              have ca1 := blk_cell HBS2.out 1
              obtain ⟨A1, c9, w4, q2, w5, hr1, hr2, hi5, hk5, hat5⟩ := HIS.out.both (by have h9 := congrArg List.length HPL.out; have h8 := HL1.out; rw [show (plain ((s, Value.slice Av l.length cv, l) :: ps2)).length = ((s, Value.slice Av l.length cv, l) :: ps2).length from by unfold plain; simp] at h9; omega) (by omega) (nx : Int) (e : Int)
              have HI5 := Aside0.mk hi5
              have HK5 := Aside0.mk hk5
              have HAT := Aside0.mk hat5
              clear hi5 hk5 hat5
              have hcutw := cut_full Av l.length cv hvc
              go_wp2_with (first | (at_builtin; refine wpList_append_run rfl (.tmp 73) (.tmp 75) 31 rfl _ _ _ rfl rfl hr1 ?_) | (at_builtin; refine wpList_append_run rfl (.tmp 63) (.tmp 78) 43 rfl _ _ _ rfl rfl hr2 ?_))
              go_roundg n2
              case measure => omega
              case rel => exact inn_push HE.out rfl HPL.out HSV.out HSB.out HI5.out HBS2.out HBX.out HQB.out HK5.out HAT.out
            · go_wp2_with (go_at_call 7; (with_reducible refine (step_eq (Tab_below HI2.out.below (Tab_pos HT.out) HT.out) HSV.out).mono ?_); rintro e' w3 ⟨rfl, hb3⟩; have hc3 := (hb3.cell (p := ⟨bs, nx, none⟩) CL.out).trans CB.out; have HB3 := Aside0.mk hb3; clear hb3)
              go_roundg n2
              case measure => omega
              case rel => exact inn_skip HE.out rfl HPL.out HI2.out HBOX.out HBX.out HQB.out HB3.out (by rw [HSV.out]; simpa using HSB.out)
          · have bz : (z == 0) = false := beq_eq_false_iff_ne.mpr hz
            have HZ := Aside0.mk hz
            clear hz
            go_wp2_with (go_at_call 7; (with_reducible refine (step_eq (Tab_below HI2.out.below (Tab_pos HT.out) HT.out) HSV.out).mono ?_); rintro e' w3 ⟨rfl, hb3⟩; have HB3 := Aside0.mk hb3; clear hb3)
            go_roundg n2
            case measure => omega
            case rel => exact inn_skip HE.out rfl HPL.out HI2.out HBOX.out HBX.out HQB.out HB3.out (by rw [HSV.out]; exact fun h => HZ.out h.1)
        · obtain rfl : e = 10 := by omega
          obtain ⟨q', hcut, hcinv⟩ := hinv.cut
          have HCI := Aside0.mk hcinv
          have HPL := Aside0.mk hpl
          clear hcinv hinv hpl hl1 hl2 hx
          go_wp2
          go_roundg m
          case measure => omega
          case rel => exact out_next HCH.out HK.out (HN.out HST.out) HPL.out HCI.out
theorem way_out (f t : Int) (w : World) (h : ¬ (0 ≤ f ∧ f ≤ 10) ∨ ¬ (0 ≤ t ∧ t ≤ 10)) : Calls Tryd.prog 10 #[.int .i64 f, .int .i64 t] w fun x w' => x = .returned (.tuple #[.slice none 0 0, .int .i64 1]) ∧ Below w.heap.size w w' := by
  by_cases h1 : 0 ≤ f ∧ f ≤ 10
  · have HC := Aside0.mk (check_ok f h1)
    have HD := Aside0.mk (check_no t (by omega))
    clear h h1
    go_enter Tryd.func10, Tryd.ntmps10
    go_wp2_with (first | (go_at_call 8; (with_reducible refine (conn_Check.calls f 0 _ HC.out).mono ?_); rintro e' w1 ⟨rfl, hd1⟩) | (go_at_call 8; (with_reducible refine (conn_Check.calls t 1 _ HD.out).mono ?_); rintro e' w2 ⟨rfl, hd2⟩))
    go_ret2
    exact ⟨rfl, bt hd1.below hd2.below⟩
  · have HC := Aside0.mk (check_no f (by omega))
    clear h h1
    go_enter Tryd.func10, Tryd.ntmps10
    go_wp2_with (first | (go_at_call 8; (with_reducible refine (conn_Check.calls f 1 _ HC.out).mono ?_); rintro e' w1 ⟨rfl, hd1⟩))
    go_ret2
    exact ⟨rfl, hd1.below⟩
end Go.Proofs.YtjfjkgjaibnjeaaDoor.PConnSays
